/-
  The engine, part 59: a walk in two parts.
-/
import Derived.Test.YtcbhpkjbiehcpaaGreatDoorQF
import Derived.Test.YtcbhpkjbiehcpaaGreatDoorQD
import Derived.Test.YtcbhpkjbiehcpaaGreatDoorQB
import Derived.Test.YtcbhpkjbiehcpaaGreatDoorQE
import Derived.LaidMore
import Derived.MakeChecks
import Derived.Stop.LaidErr
import Derived.Stop.Joined
import Derived.Lib.LaidTab
import Derived.Test.YtcbhpkjbiehcpaaGreatDoorRows
open True renaming intro->aX
open Go.Proofs.Tryz renaming prog->aa,underlying33->mV,func121->Ra,func58->KD,underlying32->lP,underlying23->cU,func49->abR,func15->Rb,func52->F3,func56->CQ,underlying29->KE,underlying22->gy,func20->abF,func7->Am,underlying3->jF
open Option renaming some->J,bind_some->iR,none->ag,map_eq_some_iff->dg
open Bool renaming false->ah,true->V,and_eq_true->bm,false_and->uO,true_and->mL
open List renaming mem_cons->gU,not_mem_nil->qJ,take_succ_cons->dw,take_zero->cX,length->F,getElem?_map->ec,length_map->br,getElem?_eq_some_iff->aT,length_nil->f_,getElem?_eq_getElem->aP,cons_append->ey,nil_append->dO,getElem?_cons_zero->iP,getElem?_cons_succ->jE,length_append->ck,length_cons->ef,map_append->jQ,map_cons->eI,flatten_append->oC,flatten_cons->jP,append_assoc->iO,drop_succ_cons->tf,drop_zero->gG,mem_singleton->ig,append_nil->gj,drop_length->FM,all_append->sZ,map_map->Ad,drop_left->CD,mem_map->jg,take_of_length_le->ga,length_take->cR,getElem?_take->mM,replicate->bB,take_length->fK,cons.inj->QE,all_eq_true->eJ,getD_eq_getElem?_getD->eK,mem_cons_self->gH,mem_cons_of_mem->gx,take_append_drop->pX,drop_drop->pW
open Nat renaming le_refl->aV,reduceEqDiff->aH,zero_le->bY,not_lt_zero->nt,lt_or_ge->dp,mul_le_mul->jt,add_mul->js,succ_mul->abv,mul_one->jS,beq->hy,sub_self->qL,le_of_ble_eq_true->jR,eq_of_beq_eq_true->lN,le_of_eq->abh,mul_le_mul_right->mz
open Prod renaming fst->dM,mk.inj->eD,snd->mA
open And renaming intro->aj
open Go renaming Value->aG,FuncId->aR,Program->bk,TypeId->aF
open Array renaming all_eq_true'->Fz,mem_of_getElem?->aaf
set_option maxHeartbeats 64000000
set_option maxRecDepth 100000
set_option linter.unusedSimpArgs false
set_option linter.unusedVariables false
set_option linter.constructorNameAsVariable false
set_option linter.defProp false
section
namespace Go.Proofs.YtcbhpkjbiehcpaaGreatDoor
open Go.AE Go.NT
def an2:Tryz.f59.results.toList=[.tmp 2]:=by kernel_rfl
def IE:Tryz.f119.results.toList=[.tmp 5]:=by kernel_rfl
def vW:Tryz.f118.results.toList=[.tmp 6,.tmp 7]:=by kernel_rfl
def pM{H}{b}{q}(d:H.boxes[b]?=J (aZ q)):aD aa Gt H 48 (.ptr (.box b) 0)=J (.agg (aZ q)):=(vG d).2.2
def Ii(p:Int × Int)(h:Heap):SC.call 59 [.agg (aZ p)] h=J (.ret (.v (.int .i64 p.1)),h.push (aZ p)):=by
 have b:=rh p;have e:=vG (aK h (aZ p));have f:=Dg;generalize aZ p=d at *
 unfold I at *
 refine cr O Tryz.func59 O ?_;exact dV @an2 @bg
def Rt:fH aa 100=J ah:=by kernel_rfl
def Wi(p q:Int × Int)(e:Nat)(h:Heap)(j:h.boxes[e]?=J [.func (.func 59) [] []]):∃h',SC.call 119 [.agg (aZ p),.agg (aZ q),.ptr (.box e) 0] h=J (.ret (.v (.int .i64 (wN p.1 q.1))),h')/\Ext h h':=by
 have A:=rh p;have B:=rh q;obtain⟨b,d⟩:∃b,(h.push (aZ p)).push (aZ q)=b:=⟨_,O⟩;have f:Ext h b:=by rw[<-d];exact(Ext.push _ _).trans (.push _ _)
 have l:b.boxes[h.boxes.length]?=J (aZ p):=by rw[<-d];exact aN (aK _ _)
 have g:b.boxes[(h.push (aZ p)).boxes.length]?=J (aZ q):=by rw[<-d];exact aK _ _
 have i:=f.box _ _ j;have y:=pM l;have L1:=pM g;have r:=pM (aN (cs:=aZ p) g);have t:aD aa Gt b 100 (.ptr (.box e) 0)=J (.func (.func 59) [] []):=by rw[fm Rt i];rfl
 have u:aD aa Gt (b.push (aZ p)) 100 (.ptr (.box e) 0)=J (.func (.func 59) [] []):=by rw[fm Rt (aN i)];rfl
 have C:=Ii p b;have D:=Ii q (b.push (aZ p));have E:=SV p.1 q.1 ((b.push (aZ p)).push (aZ q));have x:=(f.trans (.push b (aZ p))).trans (.push _ (aZ q));have n:cE (.agg (aZ q)) (.agg (aZ q))=V:=by simp[cE,fV,gF,aZ]
 have o:cE (.func (.func 59) [] []) (.func (.func 59) [] [])=V:=rfl;clear j l g i f;generalize aZ p=s at *
 generalize aZ q=m at *
 refine gI O Tryz.func119 O ?_;refine cK @IE @bg @d ?_;refine iG [(2,3),(2,4)] jG bD (λz k=>?_) ?_
 .simp only[gU,qJ,or_false]at k;rcases k with rfl|rfl
  .refine kj (x:=.ptr (.box e) 0) (v:=.func (.func 59) [] []) bD O O O bD (o) ?_ ?_<;>(simp only[dw,cX];exact dV @IE @and_self)
  .refine kj (x:=.ptr (.box (F (h.push s).boxes)) 0) (v:=.agg m) bD O O O bD (n) ?_ ?_<;>(simp only[dw,cX];exact dV @IE @and_self)
 refine bh @IE ?_;exact⟨_,O,x⟩
def xH:cC aa 48=J 2:=by kernel_rfl
def zE{H}{l}{i s}{p}(h:l[i]?=J p):aD aa Gt H 48 (.elem s (bO l) i 0)=J (.agg (aZ p)):=by rw[Ev bD xH (row:=aZ p) (by unfold bO;rw[ec,h];rfl) (aV 2)];rfl
def arG(h:Heap)(k:Tok)(s:Nat)(l:List (Int × Int))(p:Int × Int)(o:Nat)(hb:h.boxes[o]?=J [.func (.func 59) [] []])(hs:l≠[]->s=2)(N:FJ dM l)(hl:F l<=1000000):
 ∃r h',SC.call 118 [.list k s (bO l),.agg (aZ p),.func (.func 119) [] [.ptr (.box o) 0]] h=J (r,h')/\r=.ret (.tuple [.v (.int .i64 (ir dM p.1 l:Nat)),.v (.bool (nB dM p.1 l))])/\Ext h h':=by
 have Y:=ae.mk (aj hs N);clear hs N;have u33:=mV;have z48:=xH;have bp:=rh p;have eH:F (bO l)=F l:=by unfold bO;rw[br]
 have kx0:=ae.mk (Ext.push h (aZ p));have kb0:=ae.mk (aN (cs:=aZ p) hb);have kp0:=ae.mk (aK h (aZ p));clear hb;refine bL O Tryz.func118 O ?_;refine bG @vW @bg ?_;refine bC.gen λt i hY eu dn=>?_;have f0:t.get 0=.list k s (bO l):=by rw[i];exact gS
 have f2:t.get 2=.func (.func 119) [] [.ptr (.box o) 0]:=by rw[i];exact gS
 have f4:t.get 4=.ptr (.box (F h.boxes)) 0:=by rw[i];exact gS
 have f8:t.get 8=.v (.int .i64 (F l:Nat)):=by rw[i];simp only[gW,reduceIte,aH,aC,eH]
 have f9:t.get 9=.v (.int .i64 (0:Nat)):=by rw[i];exact gR
 have f10:t.get 10=.v (.int .i64 (F l:Nat)):=by rw[i];simp only[gW,reduceIte,aH,aC,eH]
 have fd:t.defers=[]:=by rw[hY];exact gS
 clear i hY eu dn;refine b_ (λz0 Z H=>∃b d:Nat,b<=d/\d<=F l/\z0=d-b/\ae ((∀g f,g<b->l[g]?=J f->f.1<p.1)/\∀g f,d<=g->l[g]?=J f->p.1<=f.1)/\Z.get 0=.list k s (bO l)/\Z.get 2=.func (.func 119) [] [.ptr (.box o) 0]/\Z.get 4=.ptr (.box (F h.boxes)) 0/\Z.get 8=.v (.int .i64 (F l:Nat))/\Z.get 9=.v (.int .i64 (b:Nat))/\Z.get 10=.v (.int .i64 (d:Nat))/\Z.defers=[]/\ae (Ext h H)/\ae (H.boxes[o]?=J [.func (.func 59) [] []])/\ae (H.boxes[h.boxes.length]?=J (aZ p))) ?_ (F l) _ _ ?_;rotate_left 1
 .exact⟨0,l.length,bY _,aV _,O,⟨λg f hj=>absurd hj (nt _),λg f h1 h2=>by have:=(aT.1 h2).1;omega⟩,f0,f2,f4,f8,f9,f10,fd,kx0,kb0,kp0⟩
 clear f0 f2 f4 f8 f9 f10 fd kx0 kb0 kp0;rintro z0 Z H ⟨b,d,h1,h2,rfl,X,g0,g2,g4,g8,g9,g10,hd,kx,kb,kp⟩;have lp:=pM kp.out;by_cases di:b<d
 .have R:s=2:=Y.out.1 (by intro q;rw[q,f_]at h2;omega);subst R;obtain⟨e,n⟩:∃e:Nat,(b+d)/2=e:=⟨_,O⟩;obtain⟨f,u⟩:∃f,l[e]?=J f:=⟨_,aP M⟩;have ld:=zE (H:=H) (s:=2) u;obtain⟨H2,ls,v⟩:=Wi f p o H kb.out;have fO:(b:Int)<(d:Int):=by omega
  have xc:(b:Int)+(d:Int)=((b+d:Nat):Int):=by omega
  have Bh:IntKind.u64.wrap ((b+d:Nat):Int)=((b+d:Nat):Int):=wrap_u64 M;have oM:IntKind.i64.wrap (((b+d)/2:Nat):Int)=((e:Nat):Int):=by rw[n];exact jm M M
  have Va:(e:Int)<(F l:Int):=by omega
  have cn:=SW f.1 p.1;have B:=ae.mk (kx.out.trans v);have kb2:=ae.mk (v.box _ _ kb.out);have kp2:=ae.mk (v.box _ _ kp.out);have y:=ae.mk u;clear u v;by_cases C:f.1<p.1
  .have S:ae ((∀g f,g<e+1->l[g]?=J f->f.1<p.1)/\∀g f,d<=g->l[g]?=J f->p.1<=f.1):=⟨λg w hj j=>by
    rcases dp g e with q|q
    .exact Int.lt_trans (Y.out.2 g e w f j y.out q) C
    .have:g=e:=(by omega);subst this;rw[y.out]at j;injection j with j;rw[<-j];exact C,X.out.2⟩
   rw[bQ C]at cn;have T:=ae.mk n;clear C n;refine bA @vW @ey.{0} @dO.{0} (aj @aU (aj @mC (aj @tL @uI))) ?_;refine du jG bD ?_;refine bA @vW @ey.{0} @dO.{0} (aj @aU (aj @mC (aj @tL @uI))) ?_;have:=T.out;exact⟨d-(e+1),by omega,e+1,d,by omega,h2,O,S,by simp,by first|exact B|trivial,by first|exact kb2|trivial,by first|exact kp2|trivial⟩
  .have S:ae ((∀g f,g<b->l[g]?=J f->f.1<p.1)/\∀g f,e<=g->l[g]?=J f->p.1<=f.1):=⟨X.out.1,λg w hj j=>by
    rcases dp e g with q|q
    .have:=Y.out.2 e g f w y.out j q;omega
    .have:g=e:=(by omega);subst this;rw[y.out]at j;injection j with j;rw[<-j];omega⟩
   rw[b7 C]at cn;have T:=ae.mk n;clear C n;refine bA @vW @ey.{0} @dO.{0} (aj @aU (aj @mC (aj @tL @uI))) ?_;refine du jG bD ?_;refine bA @vW @ey.{0} @dO.{0} (aj @aU (aj @mC (aj @tL @uI))) ?_;have:=T.out;exact⟨e-b,by omega,b,e,by omega,by omega,O,S,by simp,by first|exact B|trivial,by first|exact kb2|trivial,by first|exact kp2|trivial⟩
 .have iE:b=d:=by omega
  subst iE;have m:=Y8 h2 X.out.1 X.out.2;by_cases L:b<F l
  .have R:s=2:=Y.out.1 (by intro q;rw[q,f_]at L;omega);subst R;obtain⟨f,u⟩:∃f,l[b]?=J f:=⟨_,aP L⟩;have ld:=zE (H:=H) (s:=2) u;obtain⟨H2,ls,v⟩:=Wi f p o H kb.out;have fO:(b:Int)<(F l:Int):=(by omega);have DJ:decide ((b:Int)<(F l:Int))=V:=(by simp[L]);have cz:=SX f.1 p.1;have D:nB dM p.1 l=decide (f.1=p.1):=(by unfold nB jv;rw[m,u];simp only;split<;>simp[*]);have kf:=ae.mk D;have ka:=ae.mk m;have B:=ae.mk (kx.out.trans v);clear D m u v;refine bA @vW @ey.{0} @dO.{0} @aU ?_;refine du jG bD ?_;refine bA @vW @ey.{0} @dO.{0} @aU ?_;exact⟨_,_,O,by rw[kf.out,ka.out],B.out⟩
  .have D:nB dM p.1 l=ah:=(by unfold nB jv;rw[m,List.getElem?_eq_none M];rfl);have DJ:decide ((b:Int)<(F l:Int))=ah:=(by simp;omega);have kf:=ae.mk D;have ka:=ae.mk m;clear D m;refine bA @vW @ey.{0} @dO.{0} @aU ?_;refine du jG bD ?_;refine bA @vW @ey.{0} @dO.{0} @aU ?_;exact⟨_,_,O,by rw[kf.out,ka.out],kx.out⟩
def mG(p:Int × Int):Array aG:=#[.int .i64 p.1,.int .i64 p.2]
def Tr(d)(p q):cV aa (Op.equalIn (d+2) 48 (.agg (mG p)) (.agg (mG q)))=J (decide (p=q)):=by
 have e:∀p,cV aa (part 3 (mG p) 0)=J (.int .i64 p.1):=λp=>by kernel_rfl
 have h2:∀p,cV aa (part 3 (mG p) 1)=J (.int .i64 p.2):=λp=>by kernel_rfl
 have g:aa.stoodInHeld 48=ah:=by kernel_rfl
 have f:cV aa program=J aa:=rfl;have j:(p=q)↔(p.1=q.1/\p.2=q.2):=Prod.ext_iff;have k:decide (p=q)=(decide (p.1=q.1)&&decide (p.2=q.2)):=by rw[Bool.eq_iff_iff];simp[j]
 rw[k];unfold Op.equalIn;rw[gt,BS Tryz.underlying48,iR];by_cases b:p.1=q.1
 .by_cases i:p.2=q.2
  .simp[gt,xx,f,g,e,h2,wU,b,i]
  .simp[gt,xx,f,g,e,h2,wU,b,i]
 .simp[gt,xx,f,g,e,h2,wU,b]
def Tq{x y}(p q):cy aa .eql 48 x y (.agg (aZ p)) (.agg (aZ q))=J (.v (.bool (decide (p=q)))):=by
 have b:cV aa (eqGuard .eql 48 x y (.agg (mG p)) (.agg (mG q)))=J ():=by kernel_rfl
 show(cV aa (do eqGuard .eql 48 x y (.agg (mG p)) (.agg (mG q));binOp .eql 48 (.agg (mG p)) (.agg (mG q)))).bind jf=_;rw[gt,b,iR];show(cV aa (do pure (.bool (<-Op.equal 48 (.agg (mG p)) (.agg (mG q)))))).bind jf=_;rw[gt];have:=Tr 9998 p q;unfold Op.equal Op.maxDepth;rw[this];rfl
def alH{x y}(p q):cy aa .neq 48 x y (.agg (aZ p)) (.agg (aZ q))=J (.v (.bool (!decide (p=q)))):=by
 have b:cV aa (eqGuard .neq 48 x y (.agg (mG p)) (.agg (mG q)))=J ():=by kernel_rfl
 show(cV aa (do eqGuard .neq 48 x y (.agg (mG p)) (.agg (mG q));binOp .neq 48 (.agg (mG p)) (.agg (mG q)))).bind jf=_;rw[gt,b,iR];show(cV aa (do pure (.bool (!(<-Op.equal 48 (.agg (mG p)) (.agg (mG q))))))).bind jf=_;rw[gt];have:=Tr 9998 p q;unfold Op.equal Op.maxDepth;rw[this];rfl
def VN:∃i,aa.info? 48=J i/\i.size=2/\i.bytes<=64/\(i.zero.map λz=>z.cells.size)=J 2:=by obtain⟨i,b,h2,d,z,e,f⟩:=Eo;exact⟨i,b,h2,d,by rw[e];simp[f]⟩
def OQ:Tryz.f121.results.toList=[.tmp 2]:=by kernel_rfl
def uz:Tryz.f58.results.toList=[.tmp 6]:=by kernel_rfl
def adR:fy aa 33 0 []=J (.list .tight 2 []):=by kernel_rfl
def atH{h}{s}{l}(i:l≠[])(g:F l<=1000000)(k)(j:s=2):ml aa h #[33,33] (.list .tight 2 []) (.list k s (bO l))=J (.arr (F h.boxes) 0 (F l) (F l),h.push (bO l).flatten):=by
 subst j;obtain⟨n,e,d,m,f⟩:=VN;have p:=jt g m;have b:F (bO l)=F l:=by unfold bO;rw[br]
 have:=zS (P:=aa) (t0:=33) (t1:=33) (h:=h) (k:=.tight) (sz:=2) (es:=[]) (new:=bO l) (i:=n) (x:=.list k 2 (bO l)) mV mV e M (by rw[d];exact f) (by intro o;apply i;unfold bO at o;simpa using o) (by simp[b];omega) (by simp[b];omega) (.inl d.symm) (.inr O) (by rw[d];exact EC);simpa [b] using this
def ae4(h:Heap)(k:Tok)(s:Nat)(l:List (Int × Int))(o:l≠[]->s=2)(e:k=.nil->l=[])(n:F l<=1000000):∃r h',SC.call 121 [.list k s (bO l)] h=J (r,h')/\((l=[]/\h'=h/\∃kk s0,r=.ret (.list kk s0 [])/\(kk=.nil∨kk=.tight))∨(l≠[]/\r=.ret (.arr (F h.boxes) 0 (F l) (F l))/\h'=h.push (bO l).flatten)):=by
 have q:=mV;have R:=adR;by_cases b:l=[]
 .subst b;clear e;have L:bO ([]:List (Int × Int))=[]:=rfl;rw[L];by_cases d:k=.nil
  .subst d;refine bL O Ra O ?_;have j:∀x t,cy aa .eql 33 x t (.list .nil s []) (.list .nil 0 [])=J (.v (.bool V)):=λ_ _=>(by kernel_rfl);refine bh @OQ ?_;exact⟨_,_,O,.inl ⟨by first|rfl|trivial,O,_,_,O,.inl O⟩⟩
  .have j:∀x t,cy aa .eql 33 x t (.list k s []) (.list .nil 0 [])=J (.v (.bool ah)):=λ_ _=>by cases k<;>first|exact absurd O d|kernel_rfl
   have D:ml aa h #[33,33] (.list .tight 2 []) (.list k s [])=J (.list .tight 2 [],h):=(by obtain⟨S,v,C,N,y⟩:=VN;unfold ml;simp only[List.getElem?_toArray,iP,jE,iR,q,v,jL,rowsOf];simp[C,y]);refine bL O Ra O ?_;refine bh @OQ ?_;exact⟨_,_,O,.inl ⟨by first|rfl|trivial,O,_,_,O,.inr O⟩⟩
 .have p:=o b;subst p;have i:bO l≠[]:=by intro E;apply b;unfold bO at E;simpa using E
  have D:=atH (h:=h) (s:=2) b n k O;obtain⟨g,u,m⟩:∃g u,bO l=g::u:=by
   cases A:bO l with|nil=>exact absurd A i|cons g u=>exact⟨g,u,O⟩
  by_cases d:k=.nil
  .exact absurd (e d) b
  .have j:∀x t,cy aa .eql 33 x t (.list k 2 (bO l)) (.list .nil 0 [])=J (.v (.bool ah)):=λ_ _=>by rw[m];cases k<;>first|exact absurd O d|kernel_rfl
   have B:=ae.mk b;clear i m o n b e;generalize bO l=P at *
   refine bL O Ra O ?_;refine bh @OQ ?_;exact⟨_,_,O,.inr ⟨by first|exact B.out|trivial,O,O⟩⟩
def ajE{h}{b n i}{cs row}{k}(d:h.boxes[b]?=J cs)(g:0<n)(f:n<1000000)(hi:i<=n)(e:F cs=n*2):SC.call 120 [.arr b 0 n n,.v (.int .i64 (i:Nat)),.list k 2 [row]] h=J (.ret (.arr (F h.boxes) 0 (n+1) (n+1)),(h.put b []).push (cs.take (i*2)++row++cs.drop (i*2))):=by rw[rD];unfold k_ me mb ul;rw[aL aY];simp only[show((120:Nat)=116)=False by simp,if_false,if_true];unfold xu;simp only[d];rw[av ⟨aX,aX,g,f,by omega,by omega,aX,e⟩,Int.toNat_natCast];rfl
def ajF{h}{kk k}{s0}{row}(b:kk=.nil∨kk=.tight):SC.call 120 [.list kk s0 [],.v (.int .i64 0),.list k 2 [row]] h=J (.ret (.arr (F h.boxes) 0 1 1),h.push row):=by rw[rD];unfold k_ me mb ul;rw[aL aY];simp only[show((120:Nat)=116)=False by simp,if_false,if_true];unfold xu;simp only;rw[av ⟨b,aX⟩];rfl
def Pz(l):F (bO l).flatten=F l*2:=by
 induction l with
 |nil=>rfl|cons d l b=>show(F (aZ d++(bO l).flatten))=_;rw[ck,b,ef,js];show 2+_=_;omega
def Zb:∀(l:List (Int × Int)) (i:Nat),(bO l).flatten.take (i*2)=(bO (l.take i)).flatten/\(bO l).flatten.drop (i*2)=(bO (l.drop i)).flatten
 | [],i=>by simp[bO]
 |p::l,0=>by simp[bO]
 |p::l,i+1=>by obtain⟨b,h2⟩:=Zb l i;have e:(bO (p::l)).flatten=aZ p++(bO l).flatten:=rfl;have d:F (aZ p)=2:=rfl;rw[e,show(i+1)*2=F (aZ p)+i*2 by rw[d];omega,List.take_length_add_append,List.drop_length_add_append,b,h2];exact⟨O,O⟩
def arR(l)(p)(i):(bO l).flatten.take (i*2)++aZ p++(bO l).flatten.drop (i*2)=(bO (l.take i++p::l.drop i)).flatten:=by obtain⟨b,h2⟩:=Zb l i;rw[b,h2];unfold bO;rw[jQ,eI,oC,jP,iO]
def adQ(p):fy aa 33 1 [(0,.agg (aZ p))]=J (.list .tight 2 [aZ p]):=by kernel_rfl
def Kw(h h':Heap)(x:U)(l:List (Int × Int))(p:Int × Int)(r:dR):Prop:=
 match jv dM p.1 l with
 |some d=>if d=p then r=.ret x else r=.panic (lI 151)
 |none=>∃b,r=.ret (.arr b 0 (F l+1) (F l+1))/\F h.boxes<=b/\h'.boxes[b]?=J (bO (jd dM p l)).flatten
def anA(h:Heap)(k:Tok)(s:Nat)(l:List (Int × Int))(p:Int × Int)(m:l≠[]->s=2)(o:k=.nil->l=[])(g:FJ dM l)(hl:F l<1000000):
 ∃r h',SC.call 58 [.list k s (bO l),.agg (aZ p),.func (.func 59) [] []] h=J (r,h')/\Ext h h'/\Kw h h' (.list k s (bO l)) l p r:=by
 have bp:=rh p;have bf:=TM 59;obtain⟨q,d⟩:∃q,(h.push (aZ p)).push [.func (.func 59) [] []]=q:=⟨_,O⟩;have S:Ext h q:=by rw[<-d];exact(Ext.push _ _).trans (.push _ _)
 have y:q.boxes[h.boxes.length]?=J (aZ p):=by rw[<-d];exact aN (aK _ _)
 have j:q.boxes[(h.push (aZ p)).boxes.length]?=J [.func (.func 59) [] []]:=by rw[<-d];exact aK _ _
 have n1:=bE h (aZ p);rw[n1]at j;obtain⟨_,e,B,rfl,x3⟩:=arG q k s l p (F h.boxes+1) j m g M;have L2:=pM y;have L3:=pM (x3.box _ _ y);have sB:cE (.agg (aZ p)) (.agg (aZ p))=V:=by simp[cE,fV,gF,aZ]
 have u33:=mV;have z48:=xH;have eH:F (bO l)=F l:=by unfold bO;rw[br]
 have Y:=ae.mk (S.trans x3);have nX:=BB (pr:=me) O;have uf:=BA (pr:=me) O;unfold Kw;cases f:jv dM p.1 l with
 |some z0=>
  have t:nB dM p.1 l=V:=by unfold nB;rw[f];rfl
  rw[t]at B;have E:l[ir dM p.1 l]?=J z0:=by
   unfold jv at f;split at f
   .split at f
    .rename_i z2 _;rw[z2];exact f
    .cases f
   .cases f
  have di:=(aT.1 E).1;have D:=m (by intro z3;rw[z3]at di;simp at di);subst D;have ld:=zE (H:=e) (s:=2) E;have eq:=λx z=>Tq (x:=x) (y:=z) z0 p;generalize ir dM p.1 l=Z at *
  have fO:(Z:Int)<(F l:Int):=by omega
  clear f t E m o g y j S x3;by_cases u:z0=p
  .rw[bQ u]at eq;have N:=ae.mk u;clear u;refine bL O KD O ?_;refine bA @uz @bg @d @aU ?_;refine du jG bD ?_;refine bA @uz @bg @d @aU ?_;exact⟨_,_,O,Y.out,by rw[av N.out]⟩
  .rw[b7 u]at eq;have N:=ae.mk u;clear u;refine bL O KD O ?_;refine bA @uz @bg @d @aU ?_;refine YV (n:=6) O bD bD bD ?_;simp only[dw,cX];refine bA @uz @bg @d (aj @aU (aj @tf.{0} (aj @gG.{0} (aj @Wk (aj @ZU @ZV))))) ?_;exact⟨_,_,O,Y.out,by rw[aL N.out]⟩
 |none=>
  have t:nB dM p.1 l=ah:=by unfold nB;rw[f];rfl
  rw[t]at B;have C:=KT (k:=dM) p.1 l;have bl:=adQ p;obtain⟨_,A,cc,⟨T,rfl,kk,s0,rfl,yS⟩|⟨T,rfl,rfl⟩⟩:=ae4 e k s l m o M
  .subst T;have DD:ir dM p.1 ([]:List (Int × Int))=0:=rfl;rw[DD]at B;have ci:SC.call 120 [.list kk s0 [],.v (.int .i64 ((0:Nat):Int)),.list .tight 2 [aZ p]] A=_:=ajF (h:=A) (k:=.tight) (s0:=s0) (row:=aZ p) yS;have kb:ae (F h.boxes<=F A.boxes):=⟨by have:=(aT.1 (x3.box _ _ j)).1;omega⟩;have X:=ae.mk (aK A (aZ p));have R:=ae.mk (Y.out.trans (.push A (aZ p)));clear f t m o g y j S x3 C nX uf;have el:bO ([]:List (Int × Int))=[]:=rfl;simp only[el]at B cc ⊢;generalize hB:aZ p=z1 at *
   refine bL O KD O ?_;refine cK @uz @bg @d ?_;refine iG [(1,3)] jG bD (λz L=>?_) ?_
   .simp only[ig]at L;subst L;refine kj (x:=.ptr (.box (F h.boxes)) 0) (v:=.agg z1) bD O O O bD (sB) ?_ ?_<;>(simp only[dw,cX];exact dV @uz @and_self)
   refine cK @uz @bg @d ?_;exact⟨_,_,O,R.out,_,O,kb.out,by rw[<-hB]at X;rw[<-hB];exact X.out⟩
  .have D:=m T;subst D;have vm:=aK e (bO l).flatten;have ci:=ajE (h:=e.push (bO l).flatten) (b:=e.boxes.length) (n:=l.length) (i:=ir dM p.1 l) (row:=aZ p) (k:=.tight) vm (by cases l with|nil=>exact absurd O T|cons _ _=>simp) hl C (Pz l);rw[arR]at ci;have ei:l.take (ir dM p.1 l)++p::l.drop (ir dM p.1 l)=jd dM p l:=rfl;rw[ei]at ci;have L4:=pM (aN (cs:=(bO l).flatten) (x3.box _ _ y));have kb:ae (F h.boxes<=F (e.push (bO l).flatten).boxes):=⟨by have:=(aT.1 (x3.box _ _ j)).1;rw[bE];omega⟩;have X:ae ((((e.push (bO l).flatten).put (F e.boxes) []).push (bO (jd dM p l)).flatten).boxes[(e.push (bO l).flatten).boxes.length]?=J (bO (jd dM p l)).flatten):=⟨by
    have:=aK ((e.push (bO l).flatten).put (F e.boxes) []) (bO (jd dM p l)).flatten
    rwa [je]at this⟩
   have R:ae (Ext h (((e.push (bO l).flatten).put (F e.boxes) []).push (bO (jd dM p l)).flatten)):=⟨((Y.out.trans (.push e _)).fI (by have:=(aT.1 (x3.box _ _ j)).1;omega) []).trans (.push _ _)⟩;clear f t m o g y j S x3 C nX uf vm ei;generalize hB:aZ p=z1 at *
   generalize ir dM p.1 l=Z at *
   generalize (bO l).flatten=PF at *
   generalize (bO (jd dM p l)).flatten=IF at *
   refine bL O KD O ?_;refine cK @uz @bg @d ?_;refine iG [(1,3)] jG bD (λz L=>?_) ?_
   .simp only[ig]at L;subst L;refine kj (x:=.ptr (.box (F h.boxes)) 0) (v:=.agg z1) bD O O O bD (sB) ?_ ?_<;>(simp only[dw,cX];exact dV @uz @and_self)
   refine cK @uz @bg @d ?_;exact⟨_,_,O,R.out,_,O,kb.out,X.out⟩
def EL:Tryz.f109.results.toList=[.tmp 8]:=by kernel_rfl
def Ti{α:Type}{l:List α}{i}{y}(h:l[i]?=J y):l.drop i=y::l.drop (i+1):=by obtain⟨b,rfl⟩:=aT.1 h;exact List.drop_eq_getElem_cons b
def ami(h:Heap)(c:Ce)(a:CA)(ok:cA c a)(L:dG a)(Y:F c.who<=1000000)(T:pV c.who)(k:Tok)(s:Nat)(l:List Pr)(q:l≠[]->s=4)(hl:F l<=1000000):
 ∃r h',SC.call 109 [.agg (aq c a),.list k s (bH l),.func (.func 53) [] [],.func (.func 55) [] []] h=J (r,h')/\r=.ret (.v (.bool (ea (fT c.who) Pr.aO (-1) l)))/\Ext h h':=by
 have bx:=ok.cells;have u32:=lP;have z46:=qA;have z:=zV;have bp:=λz1=>rg z1;have N:F (bH l)=F l:=by unfold bH;rw[br]
 have kr:=ae.mk (λz1=>(Wd ok L Y T z1).call);have kl:=ae.mk q;have kld:ae (∀(H:Heap) z0,H.boxes[z0]?=J (aq c a)->aD aa Gt H 35 (.ptr (.box z0) 0)=J (.agg (aq c a))):=⟨λH z0 hb=>io ok.len hb⟩;have u:=ae.mk (Ext.push h (aq c a));have t:=ae.mk (aK h (aq c a));clear ok L Y T q;generalize aq c a=z2 at *
 refine bL O Tryz.func109 O ?_;refine bG @EL @bg ?_;refine bC.gen λg e p R S=>?_;have f2:g.get 2=.func (.func 53) [] []:=by rw[e];exact gS
 have f3:g.get 3=.func (.func 55) [] []:=by rw[e];exact gS
 have f4:g.get 4=.ptr (.box (F h.boxes)) 0:=by rw[e];exact gS
 have f9:g.get 9=.v (.int .i64 (-1)):=by rw[e];exact gS
 have f12:g.get 12=.list k s (bH l):=by rw[e];exact gS
 have f13:g.get 13=.v (.int .i64 (F l:Nat)):=by rw[e];simp only[gW,reduceIte,aH,aC,N]
 have f14:g.get 14=.v (.int .i64 (0:Nat)):=by rw[e];exact gR
 have C:g.defers=[]:=by rw[p];exact gS
 clear e p R S;refine b_ (λz3 n H=>∃(i:Nat) (b:Int),i<=F l/\z3=F l-i/\ae (ea (fT c.who) Pr.aO b (l.drop i)=ea (fT c.who) Pr.aO (-1) l)/\n.get 2=.func (.func 53) [] []/\n.get 3=.func (.func 55) [] []/\n.get 4=.ptr (.box (F h.boxes)) 0/\n.get 9=.v (.int .i64 b)/\n.get 12=.list k s (bH l)/\n.get 13=.v (.int .i64 (F l:Nat))/\n.get 14=.v (.int .i64 (i:Nat))/\n.defers=[]/\ae (Ext h H)/\ae (H.boxes[h.boxes.length]?=J z2)) ?_ (F l) _ _ ?_;rotate_left 1
 .exact⟨0,-1,bY _,O,⟨O⟩,f2,f3,f4,f9,f12,f13,f14,C,u,t⟩
 clear f2 f3 f4 f9 f12 f13 f14 C u t;rintro z3 n H ⟨i,b,hi,rfl,Z,g2,g3,g4,g9,g12,g13,g14,hd,o,kb⟩;by_cases j:i<F l
 .have X:s=4:=kl.out (by intro z4;rw[z4]at j;simp at j);subst X;obtain⟨d,v⟩:∃d,l[i]?=J d:=⟨_,aP j⟩;have ld:=qt (H:=H) (s:=4) v;have fO:(i:Int)<(F l:Int):=by omega
  have y:ae (ea (fT c.who) Pr.aO (-1) l=(fT c.who d&&decide (b<d.aO)&&ea (fT c.who) Pr.aO d.aO (l.drop (i+1)))):=⟨by rw[<-Z.out,Ti v,ea]⟩;have st:bV aa (H.push (aB ⟨0,0,0,0⟩)) 46 (.ptr (.box (F H.boxes)) 0) (.agg (aB d))=J (H.push (aB d)):=zQ d;have c53:=kr.out d;have lD:=kld.out (H.push (aB d)) (F h.boxes) (aN kb.out);have l1:=jZ (aK H (aB d));have l2:=jZ (aN (cs:=aB d) (aK H (aB d)));have o1:=Ih d (H.push (aB d));have o2:=Ih d ((H.push (aB d)).push (aB d));have x1:=ae.mk (o.out.trans (.push H (aB d)));have x2:=ae.mk ((o.out.trans (.push H (aB d))).trans (.push _ (aB d)));have x3:=ae.mk (((o.out.trans (.push H (aB d))).trans (.push _ (aB d))).trans (.push _ (aB d)));have kb3:ae ((((H.push (aB d)).push (aB d)).push (aB d)).boxes[h.boxes.length]?=J z2):=⟨aN (aN (aN kb.out))⟩;clear v;generalize fT c.who d=z5 at *
  generalize hB:aB d=z6 at *
  generalize Uc:aB ⟨0,0,0,0⟩=B0 at *
  cases z5 with
  |false=>
   have m:ae (ea (fT c.who) Pr.aO (-1) l=ah):=⟨by rw[y.out];rfl⟩
   repeat' (first|simp(maxSteps:=9999999) (disch:=first|exact dZ|fail) only[gW,reduceIte,aH,aC,EL,aU,gj,dO, *]|refine dX ?_ ?_<;>(intro _;try omega))
   all_goals exact⟨_,_,O,by rw[m.out],x1.out⟩
  |true=>
   by_cases B:d.aO<=b
   .have m:ae (ea (fT c.who) Pr.aO (-1) l=ah):=⟨by rw[y.out,b7 (M:¬b<d.aO)];rfl⟩;have d1:decide (d.aO<=b)=V:=bQ B
    repeat' (first|simp(maxSteps:=9999999) (disch:=first|exact dZ|fail) only[gW,reduceIte,aH,aC,EL,aU,gj,dO, *]|refine dX ?_ ?_<;>(intro _;try omega))
    all_goals exact⟨_,_,O,by rw[m.out],x2.out⟩
   .have f:ae (ea (fT c.who) Pr.aO d.aO (l.drop (i+1))=ea (fT c.who) Pr.aO (-1) l):=⟨by rw[y.out,bQ (M:b<d.aO)];rfl⟩;have d1:decide (d.aO<=b)=ah:=b7 B
    repeat' (first|simp(maxSteps:=9999999) (disch:=first|exact dZ|fail) only[gW,reduceIte,aH,aC,EL,aU,gj,dO, *]|refine dX ?_ ?_<;>(intro _;try omega))
    all_goals exact⟨F l-(i+1),by omega,i+1,d.aO,by omega,O,f,by simp,by first|exact x3|trivial,by first|exact kb3|trivial⟩
 .have:i=F l:=by omega
  subst this;have m:ae (ea (fT c.who) Pr.aO (-1) l=V):=⟨by rw[<-Z.out,FM];rfl⟩
  repeat' (first|simp(maxSteps:=9999999) (disch:=first|exact dZ|fail) only[gW,reduceIte,aH,aC,EL, *]|refine dX ?_ ?_<;>(intro _;try omega))
  all_goals exact⟨_,_,O,by rw[m.out],o.out⟩
def aac:(fW aa 48).bind U.bF=J (aZ (0,0)):=by kernel_rfl
def ZC{H:Heap}(p):bV aa (H.push (aZ (0,0))) 48 (.ptr (.box (F H.boxes)) 0) (.agg (aZ p))=J (H.push (aZ p)):=lJ O xH O rfl
def EM:Tryz.f110.results.toList=[.tmp 8]:=by kernel_rfl
def amj(h:Heap)(c:Ce)(a:CA)(ok:cA c a)(L:dG a)(Y:F c.who<=1000000)(T:pV c.who)(k:Tok)(s:Nat)(l:List (Int × Int))(q:l≠[]->s=2)(hl:F l<=1000000):
 ∃r h',SC.call 110 [.agg (aq c a),.list k s (bO l),.func (.func 57) [] [],.func (.func 59) [] []] h=J (r,h')/\r=.ret (.v (.bool (ea (fU c.who) dM (-1) l)))/\Ext h h':=by
 have bx:=ok.cells;have u33:=mV;have z48:=xH;have z:=aac;have bp:=λz1=>rh z1;have N:F (bO l)=F l:=by unfold bO;rw[br]
 have kr:=ae.mk (λz1=>(We ok L Y T z1).call);have kl:=ae.mk q;have kld:ae (∀(H:Heap) z0,H.boxes[z0]?=J (aq c a)->aD aa Gt H 35 (.ptr (.box z0) 0)=J (.agg (aq c a))):=⟨λH z0 hb=>io ok.len hb⟩;have u:=ae.mk (Ext.push h (aq c a));have t:=ae.mk (aK h (aq c a));clear ok L Y T q;generalize aq c a=z2 at *
 refine bL O Tryz.func110 O ?_;refine bG @EM @bg ?_;refine bC.gen λg e p R S=>?_;have f2:g.get 2=.func (.func 57) [] []:=by rw[e];exact gS
 have f3:g.get 3=.func (.func 59) [] []:=by rw[e];exact gS
 have f4:g.get 4=.ptr (.box (F h.boxes)) 0:=by rw[e];exact gS
 have f9:g.get 9=.v (.int .i64 (-1)):=by rw[e];exact gS
 have f12:g.get 12=.list k s (bO l):=by rw[e];exact gS
 have f13:g.get 13=.v (.int .i64 (F l:Nat)):=by rw[e];simp only[gW,reduceIte,aH,aC,N]
 have f14:g.get 14=.v (.int .i64 (0:Nat)):=by rw[e];exact gR
 have C:g.defers=[]:=by rw[p];exact gS
 clear e p R S;refine b_ (λz3 n H=>∃(i:Nat) (b:Int),i<=F l/\z3=F l-i/\ae (ea (fU c.who) dM b (l.drop i)=ea (fU c.who) dM (-1) l)/\n.get 2=.func (.func 57) [] []/\n.get 3=.func (.func 59) [] []/\n.get 4=.ptr (.box (F h.boxes)) 0/\n.get 9=.v (.int .i64 b)/\n.get 12=.list k s (bO l)/\n.get 13=.v (.int .i64 (F l:Nat))/\n.get 14=.v (.int .i64 (i:Nat))/\n.defers=[]/\ae (Ext h H)/\ae (H.boxes[h.boxes.length]?=J z2)) ?_ (F l) _ _ ?_;rotate_left 1
 .exact⟨0,-1,bY _,O,⟨O⟩,f2,f3,f4,f9,f12,f13,f14,C,u,t⟩
 clear f2 f3 f4 f9 f12 f13 f14 C u t;rintro z3 n H ⟨i,b,hi,rfl,Z,g2,g3,g4,g9,g12,g13,g14,hd,o,kb⟩;by_cases j:i<F l
 .have X:s=2:=kl.out (by intro z4;rw[z4]at j;simp at j);subst X;obtain⟨d,v⟩:∃d,l[i]?=J d:=⟨_,aP j⟩;have ld:=zE (H:=H) (s:=2) v;have fO:(i:Int)<(F l:Int):=by omega
  have y:ae (ea (fU c.who) dM (-1) l=(fU c.who d&&decide (b<d.1)&&ea (fU c.who) dM d.1 (l.drop (i+1)))):=⟨by rw[<-Z.out,Ti v,ea]⟩;have st:bV aa (H.push (aZ (0,0))) 48 (.ptr (.box (F H.boxes)) 0) (.agg (aZ d))=J (H.push (aZ d)):=ZC d;have c57:=kr.out d;have lD:=kld.out (H.push (aZ d)) (F h.boxes) (aN kb.out);have l1:=pM (aK H (aZ d));have l2:=pM (aN (cs:=aZ d) (aK H (aZ d)));have o1:=Ii d (H.push (aZ d));have o2:=Ii d ((H.push (aZ d)).push (aZ d));have x1:=ae.mk (o.out.trans (.push H (aZ d)));have x2:=ae.mk ((o.out.trans (.push H (aZ d))).trans (.push _ (aZ d)));have x3:=ae.mk (((o.out.trans (.push H (aZ d))).trans (.push _ (aZ d))).trans (.push _ (aZ d)));have kb3:ae ((((H.push (aZ d)).push (aZ d)).push (aZ d)).boxes[h.boxes.length]?=J z2):=⟨aN (aN (aN kb.out))⟩;clear v;generalize fU c.who d=z5 at *
  generalize hB:aZ d=z6 at *
  generalize Uc:aZ (0,0)=B0 at *
  cases z5 with
  |false=>
   have m:ae (ea (fU c.who) dM (-1) l=ah):=⟨by rw[y.out];rfl⟩
   repeat' (first|simp(maxSteps:=9999999) (disch:=first|exact dZ|fail) only[gW,reduceIte,aH,aC,EM,aU,gj,dO, *]|refine dX ?_ ?_<;>(intro _;try omega))
   all_goals exact⟨_,_,O,by rw[m.out],x1.out⟩
  |true=>
   by_cases B:d.1<=b
   .have m:ae (ea (fU c.who) dM (-1) l=ah):=⟨by rw[y.out,b7 (M:¬b<d.1)];rfl⟩;have d1:decide (d.1<=b)=V:=bQ B
    repeat' (first|simp(maxSteps:=9999999) (disch:=first|exact dZ|fail) only[gW,reduceIte,aH,aC,EM,aU,gj,dO, *]|refine dX ?_ ?_<;>(intro _;try omega))
    all_goals exact⟨_,_,O,by rw[m.out],x2.out⟩
   .have f:ae (ea (fU c.who) dM d.1 (l.drop (i+1))=ea (fU c.who) dM (-1) l):=⟨by rw[y.out,bQ (M:b<d.1)];rfl⟩;have d1:decide (d.1<=b)=ah:=b7 B
    repeat' (first|simp(maxSteps:=9999999) (disch:=first|exact dZ|fail) only[gW,reduceIte,aH,aC,EM,aU,gj,dO, *]|refine dX ?_ ?_<;>(intro _;try omega))
    all_goals exact⟨F l-(i+1),by omega,i+1,d.1,by omega,O,f,by simp,by first|exact x3|trivial,by first|exact kb3|trivial⟩
 .have:i=F l:=by omega
  subst this;have m:ae (ea (fU c.who) dM (-1) l=V):=⟨by rw[<-Z.out,FM];rfl⟩
  repeat' (first|simp(maxSteps:=9999999) (disch:=first|exact dZ|fail) only[gW,reduceIte,aH,aC,EM, *]|refine dX ?_ ?_<;>(intro _;try omega))
  all_goals exact⟨_,_,O,by rw[m.out],o.out⟩
def anL:Tryz.f108.results.toList=[.tmp 3]:=by kernel_rfl
def BT:Tryz.f49.results.toList=[]:=by kernel_rfl
def Yh:Tryz.f48.results.toList=[]:=by kernel_rfl
def anO:Tryz.f14.results.toList=[.tmp 2]:=by kernel_rfl
def acx(h:Heap){c:Ce}{a:CA}(ok:cA c a)(b n:Nat)(d:h.boxes[b]?=J (aq c a)):SC.call 108 [.v (.int .i64 (n:Nat)),.ptr (.box b) 0] h=J (.ret (.v (.bool (decide (n=F c.who)))),h):=by
 obtain⟨-,-,e,-,-,-⟩:=gL ok d;obtain⟨-,-,f2,-,-⟩:=py;have g:=cU;obtain⟨l,m,f,-⟩:=ok.w;have j:=cG c.who;rw[f]at e;have i:decide ((n:Int)=(F c.who:Int))=decide (n=F c.who):=by by_cases k:n=F c.who<;>simp[k];omega
 clear ok d f;refine cr O Tryz.func108 O ?_;exact iL @anL
def Lj(h:Heap)(c:Ce)(a:CA)(ok:cA c a)(k:dG a)(S:c.Fit):∃r h',SC.call 49 [.agg (aq c a)] h=J (r,h')/\r=kY (dD c)/\Ext h h':=by
 have bx:=ok.cells;have z:=wi;have cn:=(Wc ok k S).call;obtain⟨-,-,m,-,A,B⟩:=S;obtain⟨e,b⟩:∃e,h.push (aq c a)=e:=⟨_,O⟩;have p:e.boxes[h.boxes.length]?=J (aq c a):=by rw[<-b];exact aK _ _
 obtain⟨l1,l2,l3,-,-,-⟩:=gL ok p;have z2:=py;have s2:bV aa (e.push (aq c0 a0)) 35 (.ptr (.box (F e.boxes)) 0) (.agg (aq (jp c) (iY c a)))=J (e.push (aq (jp c) (iY c a))):=by rw[qy fS.len (ut ok).len (ut ok).cells (aK _ _)];congr 1;exact mg _ _ _
 obtain⟨i,d⟩:∃i,e.push (aq (jp c) (iY c a))=i:=⟨_,O⟩;have j:Ext h i:=by rw[<-d,<-b];exact(Ext.push _ _).trans (.push _ _)
 have q:i.boxes[h.boxes.length]?=J (aq c a):=by rw[<-d];exact aN p
 obtain⟨-,-,-,m4,m5,m6⟩:=gL ok q;have nX:=BB (pr:=me) O;have uf:=BA (pr:=me) O;by_cases g:c.e_=0;rotate_left 1
 .have hE:dD c=440:=by unfold dD;rw[av g]
  have d1:decide (c.e_=0)=ah:=b7 g;have kx:=ae.mk j;rw[hE];clear ok k m A B p q j;generalize aq (jp c) (iY c a)=z1 at *
  generalize aq c a=z0 at *
  generalize aq c0 a0=Y at *
  generalize c.e_=ne at *
  unfold I at *
  refine bL O abR O ?_;refine bA @BT @bg @b @d ?_;exact⟨_,_,O,O,kx.out⟩
 have f:=(Ir c.who (-1) (ED g)).2;obtain⟨kp,sp,R,u⟩:=ok.pa;obtain⟨kz,sz,ez,v⟩:=ok.z;obtain⟨_,T,Z,rfl,x3⟩:=ami i c a ok k m f kp sp c.bI u A;obtain⟨_,X,c110,rfl,L⟩:=amj T c a ok k m f kz sz c.parts v B;have C:=x3.box _ _ q;have E:=L.box _ _ C;obtain⟨-,-,-,n4,n5,n6⟩:=gL ok C;obtain⟨-,-,-,o4,o5,o6⟩:=gL ok E;rw[R]at m4 n4 o4;rw[ez]at m5 n5 o5;have u32:=lP;have u33:=mV;have il1:F (bH c.bI)=F c.bI:=by unfold bH;rw[br]
 have il2:=uH c.parts;have N:=acx X ok (F h.boxes) (F c.bI) E;have k3:=ae.mk (j.trans x3);have n:=ae.mk ((j.trans x3).trans L);rw[g]at cn;have s:dD c=if (ea (fT c.who) Pr.aO (-1) c.bI&&ea (fU c.who) dM (-1) c.parts)=ah then 440 else if F c.bI≠F c.who/\c.parts≠[] then 440 else 0:=by unfold dD;rw[aL (by simp[g])]
 rw[s];have t:decide ((F c.parts:Int)=0)=decide (c.parts=[]):=by cases c.parts<;>simp;omega
 clear ok k m A B p q j s g f u v R ez C E x3 L;generalize aq (jp c) (iY c a)=z1 at *
 generalize aq c a=z0 at *
 generalize aq c0 a0=Y at *
 generalize ea (fT c.who) Pr.aO (-1) c.bI=u1 at *
 generalize ea (fU c.who) dM (-1) c.parts=u2 at *
 generalize bH c.bI=PL1 at *
 generalize bO c.parts=SL1 at *
 unfold I at *
 refine bL O abR O ?_;cases u1 with
 |false=>
  repeat' (first|simp(maxSteps:=9999999) (disch:=first|exact dZ|fail) only[gW,reduceIte,aH,aC,BT,bg,b,d, *]|refine dX ?_ ?_<;>(intro _;try omega))
  all_goals exact⟨_,_,O,O,k3.out⟩
 |true=>
 cases u2 with
 |false=>
  repeat' (first|simp(maxSteps:=9999999) (disch:=first|exact dZ|fail) only[gW,reduceIte,aH,aC,BT,bg,b,d, *]|refine dX ?_ ?_<;>(intro _;try omega))
  all_goals exact⟨_,_,O,O,n.out⟩
 |true=>
 by_cases d1:F c.bI=F c.who
 .have y:decide (F c.bI=F c.who)=V:=bQ d1;rw[y]at N;have o:=ae.mk d1;clear d1
  repeat' (first|simp(maxSteps:=9999999) (disch:=first|exact dZ|fail) only[gW,reduceIte,aH,aC,BT,bg,b,d,dO,ey, *]|refine dX ?_ ?_<;>(intro _;try omega))
  all_goals exact⟨_,_,O,by simp[o.out,kY],n.out⟩
 .have y:decide (F c.bI=F c.who)=ah:=b7 d1;rw[y]at N;have o:=ae.mk d1;clear d1;by_cases d2:c.parts=[]
  .rw[bQ d2]at t;have l:=ae.mk d2;clear d2
   repeat' (first|simp(maxSteps:=9999999) (disch:=first|exact dZ|fail) only[gW,reduceIte,aH,aC,BT,bg,b,d,dO,ey, *]|refine dX ?_ ?_<;>(intro _;try omega))
   all_goals exact⟨_,_,O,by simp[o.out,l.out,kY],n.out⟩
  .rw[b7 d2]at t;have l:=ae.mk d2;clear d2
   repeat' (first|simp(maxSteps:=9999999) (disch:=first|exact dZ|fail) only[gW,reduceIte,aH,aC,BT,bg,b,d,dO,ey, *]|refine dX ?_ ?_<;>(intro _;try omega))
   all_goals exact⟨_,_,O,by simp[o.out,l.out,kY],n.out⟩
def Li(c):dD c=0∨dD c=440:=by
 unfold dD
 repeat' split
 all_goals first|exact .inl rfl|exact .inr rfl
def aeS(h:Heap)(c:Ce)(a:CA)(ok:cA c a)(j:dG a)(g:c.Fit)(b:Nat)(i:h.boxes[b]?=J (aq c a)):∃r h',SC.call 48 [.ptr (.box b) 0] h=J (r,h')/\r=kY (dD c)/\Ext h h':=by
 obtain⟨-,-,-,-,-,m⟩:=gL ok i;obtain⟨_,h2,d,rfl,x⟩:=Lj h c a ok j g;have k:=ae.mk x;clear ok j g i x;generalize aq c a=l at *
 refine bL O Tryz.func48 O ?_;rcases Li c with e|e
 .rw[e]at d ⊢;unfold kY at *
  simp only[if_true]at d;refine bh @Yh ?_;exact⟨_,_,O,O,k.out⟩
 .rw[e]at d ⊢;have f:kY 440=.panic (lI 440):=rfl;rw[f]at d ⊢;refine bh @Yh ?_;exact⟨_,_,O,O,k.out⟩
def aeQ(h:Heap)(c:Ce)(a:CA)(ok:cA c a)(e:dG a)(d:c.Fit):∃r h',SC.call 14 [.agg (aq c a)] h=J (r,h')/\r=.ret (I (dD c)):=by
 have g:=ok.cells;obtain⟨_,h2,b,rfl,x⟩:=aeS ((h.push (aq c a)).push [.v (.int .i64 0)]) c a ok e d (F h.boxes) (aN (aK _ _));obtain⟨i,f,-⟩:=F_ (pr:=me) O 48 _ (h.push (aq c a)) h2 (dD c) b (x.box _ _ (aK _ _));clear ok e d x b;generalize aq c a=j at *
 generalize dD c=k at *
 unfold I;refine bL O Tryz.func14 O ?_;refine bG @anO @bg ?_;exact⟨_,_,O,O⟩
def j3:Tryz.f15.results.toList=[.tmp 2]:=by kernel_rfl
def wX(s)(es)(i):dU aa 46 (.elem s es i 0) 0=J (.elem s es i 0):=by kernel_rfl
def wY(s)(es)(i):dU aa 48 (.elem s es i 0) 0=J (.elem s es i 0):=by kernel_rfl
def Wv{H}{l}{i s}{p}(h:l[i]?=J p):aD aa Gt H 3 (.elem s (bH l) i 0)=J (.v (.int .i64 p.aO)):=by rw[oO dY (row:=aB p) (by unfold bH;rw[ec,h];rfl)];rfl
def Wx{H}{l}{i s}{p}(h:l[i]?=J p):aD aa Gt H 3 (.elem s (bO l) i 0)=J (.v (.int .i64 p.1)):=by rw[oO dY (row:=aZ p) (by unfold bO;rw[ec,h];rfl)];rfl
def j8{α:Type}(o:α->Bool)(k:α->Int)(l:List α)(i:Nat):Bool:=match l[i]? with
 |some b=>o b&&(match i with|0=>V|d+1=>match l[d]? with|some x=>decide (k x<k b)|none=>V)
 |none=>V
def aoo{α}{o}{k}(q:∀x,o x=V-> -1<k x):∀(l:List α) (d:Int),(∀y,l[0]?=J y->o y=V->d<k y)->(ea o k d l=V↔∀i,i<F l->j8 o k l i=V):=by
 intro l
 induction l with
 |nil=>intro d _;exact⟨λ_ i j=>absurd j (nt _),λ_=>rfl⟩|cons x l m=>
  intro d n;rw[sd];constructor
  .rintro⟨f,h2,e⟩ i j;have p:=(m (k x) (λy b r=>by
    cases l with
    |nil=>simp at b|cons z l=>simp at b;subst b;rw[sd]at e;exact e.2.1)).1 e
   cases i with
   |zero=>unfold j8;simp[f]|succ i=>
    have g:=p i (by simpa using j);unfold j8 at g ⊢;rw[jE];cases b:l[i]? with
    |none=>rfl|some y=>
     rw[b]at g;simp only[bm]at g ⊢;refine⟨g.1,?_⟩;cases i with
     |zero=>
      simp only[iP,decide_eq_true_eq];cases l with|nil=>simp at b|cons z l=>simp at b;subst b;rw[sd]at e;exact e.2.1
     |succ i=>rw[jE];exact g.2
  .intro h;have f:=h 0 b8;unfold j8 at f;simp at f;refine⟨f,n x O f,(m (k x) ?_).2 λi j=>?_⟩
   .intro y b _;have h2:=h 1 (by have:=(aT.1 b).1;simp;omega);unfold j8 at h2;rw[jE,b]at h2;simp at h2;exact h2.2
   .have h2:=h (i+1) (by simpa using j);unfold j8 at h2 ⊢;rw[jE]at h2;cases b:l[i]? with
    |none=>rfl|some y=>
     rw[b]at h2;simp only[bm]at h2 ⊢;refine⟨h2.1,?_⟩;cases i with|zero=>rfl|succ i=>have e:=h2.2;rw[jE]at e;exact e
end Go.Proofs.YtcbhpkjbiehcpaaGreatDoor
end
section
namespace Go.AE
open Go
def Code.tl:Nat->Code->Code
 |n+1,.seq _ b=>Code.tl n b
 |_,c=>c
def Code.xy:Nat->Code->Code->Code
 |n+1,.seq a c,b=>.seq a (Code.xy n c b)
 |0,_,b=>b
 |_,c,_=>c
def aov:∀(n:Nat) (c:Code),Code.xy n c (Code.tl n c)=c:=by
 intro n
 induction n with
 |zero=>intro c;cases c<;>rfl
 |succ n b=>intro c;cases c<;>first|rfl|(simp only[Code.xy,Code.tl,b])
def YW(n){R}{c}{e}{h}{Q}(g:Env->Heap->Prop)(d:∀b,(∀e h,g e h->bC R b e h Q)->bC R (Code.xy n c b) e h Q)(f:∀e h,g e h->bC R (Code.tl n c) e h Q):bC R c e h Q:=by
 have:=d _ f
 rwa [aov]at this
end Go.AE
end
section
namespace Go.Proofs.YtcbhpkjbiehcpaaGreatDoor
open Go.AE Go.NT
def XA{α}{o}{k}(b:∀x,o x=V-> -1<k x)(l:List α):ea o k (-1) l=V↔∀i,i<F l->j8 o k l i=V:=aoo b l (-1) λe _ d=>b e d
def aeM{c}(e:c.e_=0)(d:¬(F c.bI<F c.who/\c.parts≠[])):(dD c=0/\ea (fT c.who) Pr.aO (-1) c.bI=V/\ea (fU c.who) dM (-1) c.parts=V)∨(dD c=440/\(ea (fT c.who) Pr.aO (-1) c.bI=ah∨ea (fU c.who) dM (-1) c.parts=ah)):=by
 unfold dD;rw[aL (by simp[e])];cases b:ea (fT c.who) Pr.aO (-1) c.bI with
 |false=>exact .inr ⟨O,.inl O⟩|true=>
  cases j:ea (fU c.who) dM (-1) c.parts with|false=>exact .inr ⟨O,.inr O⟩|true=>have i:=Xy b λx f=>IP (Om b x f).1;left;refine⟨?_,O,O⟩;rw[aL b8,aL];rintro⟨k,g⟩;exact d ⟨M,g⟩
def aod(h:Heap)(c:Ce)(a:CA)(ok:cA c a)(D:dG a)(fi:c.Fit):∃r h',SC.call 15 [.agg (aq c a)] h=J (r,h')/\r=.ret (I (dD c)):=by
 have bx:=ok.cells;have z:=wi;have z46:=qA;have cn:=(akj ok D fi).call;obtain⟨-,-,fw,-,fp,ft⟩:=fi;obtain⟨R,u⟩:∃R,h.push (aq c a)=R:=⟨_,O⟩;have q0:R.boxes[h.boxes.length]?=J (aq c a):=by rw[<-u];exact aK _ _
 obtain⟨l1,l2,l3,-,-,-⟩:=gL ok q0;have z6:=py;have s2:bV aa (R.push (aq c0 a0)) 35 (.ptr (.box (F R.boxes)) 0) (.agg (aq (jp c) (iY c a)))=J (R.push (aq (jp c) (iY c a))):=by rw[qy fS.len (ut ok).len (ut ok).cells (aK _ _)];congr 1;exact mg _ _ _
 obtain⟨H2,v⟩:∃H2,R.push (aq (jp c) (iY c a))=H2:=⟨_,O⟩;have r0:H2.boxes[h.boxes.length]?=J (aq c a):=by rw[<-v];exact aN q0
 obtain⟨-,-,m3,m4,m5,m6⟩:=gL ok r0;obtain⟨kw,sw,ew,-⟩:=ok.w;obtain⟨kp,sp,ep,Y⟩:=ok.pa;obtain⟨kz,sz,ez,Z⟩:=ok.z;have u23:=cU;have u32:=lP;have u33:=mV;have xq:=cG c.who;have il1:F (bH c.bI)=F c.bI:=by unfold bH;rw[br]
 have il2:=uH c.parts;have t:decide ((F c.parts:Int)>0)=decide (c.parts≠[]):=by cases c.parts<;>simp
 have q:decide ((F c.bI:Int)<(F c.who:Int))=decide (F c.bI<F c.who):=by by_cases L:F c.bI<F c.who<;>simp[L]
 have kcp:=ae.mk (λz2=>(aj9 ok D fw z2).call);have kcz:=ae.mk (λz2=>(akb ok D fw z2).call);rw[ew]at m3 l3 cn;rw[ep]at m4;rw[ez]at m5;have ks:=ae.mk (aj Y Z);by_cases y:c.e_=0;rotate_left 1
 .have hE:dD c=440:=by unfold dD;rw[av y]
  have d1:decide (c.e_=0)=ah:=b7 y;rw[hE];clear ok D fw fp ft q0 r0 Y Z;generalize aq (jp c) (iY c a)=z4 at *
  generalize aq c a=z3 at *
  generalize aq c0 a0=Z0 at *
  generalize c.e_=ne at *
  unfold I at *
  refine bL O Rb O ?_
  repeat' (first|simp(maxSteps:=9999999) (disch:=first|exact dZ|fail) only[gW,reduceIte,aH,aC,j3,bg,u,v, *]|refine dX ?_ ?_<;>(intro _;try omega))
  all_goals exact⟨_,_,O,O⟩
 have T:=Ov (ED y);have xh:∀x,fT c.who x=V-> -1<x.aO:=λx m=>T _ (IP m);have yR:∀x,fU c.who x=V-> -1<x.1:=λx m=>T _ (Yv m);rw[y]at cn;by_cases hA:F c.bI<F c.who/\c.parts≠[]
 .have hE:dD c=440:=by
   unfold dD;rw[aL (by simp[y])];split
   .rfl
   .rw[av ⟨M,hA.2⟩]
  rw[bQ hA.1]at q;rw[bQ hA.2]at t;rw[hE];clear ok D fw fp ft q0 r0 Y Z hA y;generalize aq (jp c) (iY c a)=z4 at *
  generalize aq c a=z3 at *
  generalize aq c0 a0=Z0 at *
  unfold I at *
  refine bL O Rb O ?_
  repeat' (first|simp(maxSteps:=9999999) (disch:=first|exact dZ|fail) only[gW,reduceIte,aH,aC,j3,bg,u,v, *]|refine dX ?_ ?_<;>(intro _;try omega))
  all_goals exact⟨_,_,O,O⟩
 have kE:=ae.mk (aeM y hA);have kO1:=ae.mk (XA xh c.bI);have kO2:=ae.mk (XA yR c.parts);have B:decide (F c.bI<F c.who)=ah∨(decide (F c.bI<F c.who)=V/\decide (c.parts≠[])=ah):=by
  by_cases L:F c.bI<F c.who
  .right;exact⟨bQ L,b7 λX=>hA ⟨L,X⟩⟩
  .left;exact b7 L
 clear ok D fw q0 r0 Y Z hA y T xh yR;generalize aq (jp c) (iY c a)=z4 at *
 generalize aq c a=z3 at *
 generalize aq c0 a0=Z0 at *
 unfold I at *
 refine bL O Rb O ?_;refine YW 3 (λX K=>X.get 1=.ptr (.box (F h.boxes)) 0/\X.defers=[]/\K=H2) ?_ ?_
 .intro z5 hb;have kb:=ae.mk hb;clear hb;rcases B with z0|⟨z0,g2⟩
  .rw[z0]at q;clear z0 t
   repeat' (first|simp(maxSteps:=9999999) (disch:=first|exact dZ|fail) only[gW,reduceIte,aH,aC,j3,bg,u,v,Code.xy, *]|refine dX ?_ ?_<;>(intro _;try omega))
   refine kb.out _ _ ⟨?_,?_,?_⟩<;>first|rfl|(simp only[gW,reduceIte,aH,aC];done)|(exact gR)
  .rw[z0]at q;rw[g2]at t;clear z0 g2
   repeat' (first|simp(maxSteps:=9999999) (disch:=first|exact dZ|fail) only[gW,reduceIte,aH,aC,j3,bg,u,v,Code.xy, *]|refine dX ?_ ?_<;>(intro _;try omega))
   refine kb.out _ _ ⟨?_,?_,?_⟩<;>first|rfl|(simp only[gW,reduceIte,aH,aC];done)|(exact gR)
 simp only[Code.tl];rintro j K0 ⟨k1,kd,rfl⟩;clear B q t;refine bh @j3 ?_;refine bC.gen λS l A eu dn=>?_;have f1:S.get 1=.ptr (.box (F h.boxes)) 0:=by rw[l];simp only[gW,reduceIte,aH,aC,k1]
 have f5:S.get 5=.v (.int .i64 (0:Nat)):=by rw[l];exact gR
 have fd:S.defers=[]:=by rw[A];simp only[gW,reduceIte,aH,aC,kd]
 clear l A eu dn k1 kd;refine b_ (λz1 X H=>∃e:Nat,e<=F c.bI/\z1=F c.bI-e/\ae (∀b,b<e->j8 (fT c.who) Pr.aO c.bI b=V)/\X.get 1=.ptr (.box (F h.boxes)) 0/\X.get 5=.v (.int .i64 (e:Nat))/\X.defers=[]/\H=K0) ?_ (F c.bI) _ _ ?_;rotate_left 1
 .exact⟨0,bY _,O,⟨λb p=>absurd p (nt _)⟩,f1,f5,fd,O⟩
 clear f1 f5 fd;rintro z1 X H ⟨e,hi,rfl,kP,g1,g5,hd,rfl⟩;by_cases k:e<F c.bI
 .have ev:sp=4:=ks.out.1 (by intro L;rw[L]at k;simp at k);subst ev;obtain⟨N,g⟩:∃N,c.bI[e]?=J N:=⟨_,aP k⟩;have ld:=qt (H:=H) (s:=4) g;have lk:=Wv (H:=H) (s:=4) g;have c50:=kcp.out N;have fO:(e:Int)<(F c.bI:Int):=by omega
  have d:ae (j8 (fT c.who) Pr.aO c.bI e=ah->dD c=440):=⟨λL=>by
   rcases kE.out with⟨-,j,-⟩|⟨j,-⟩
   .have:=kO1.out.1 j e k;rw[L]at this;cases this
   .exact j⟩
  have i:ae (j8 (fT c.who) Pr.aO c.bI e=V->∀b,b<e+1->j8 (fT c.who) Pr.aO c.bI b=V):=⟨λL b p=>by
   rcases dp b e with w|w
   .exact kP.out b w
   .rw[(M:b=e)];exact L⟩
  cases f:fT c.who N with
  |false=>
   rw[f]at c50;have n:ae (dD c=440):=⟨d.out (by unfold j8;rw[g];simp only[f,uO])⟩;clear g f;refine cK @j3 @aU @wX ?_;refine du jG bD ?_
   repeat' (first|simp(maxSteps:=9999999) (disch:=first|exact dZ|fail) only[gW,reduceIte,aH,aC,j3,aU,wX, *]|refine dX ?_ ?_<;>(intro _;try omega))
   all_goals exact⟨_,_,O,by rw[n.out]⟩
  |true=>
   rw[f]at c50;by_cases h0:e=0
   .subst h0;have o:=ae.mk (i.out (by unfold j8;rw[g];simp only[f,mL]));clear g f;refine cK @j3 @aU @wX ?_;refine du jG bD ?_
    repeat' (first|simp(maxSteps:=9999999) (disch:=first|exact dZ|fail) only[gW,reduceIte,aH,aC,j3,aU,wX, *]|refine dX ?_ ?_<;>(intro _;try omega))
    all_goals exact⟨F c.bI-1,by omega,0+1,by omega,O,o,by simp⟩
   .obtain⟨b,rfl⟩:∃b,e=b+1:=⟨e-1,by omega⟩;obtain⟨x,m⟩:∃x,c.bI[b]?=J x:=⟨_,aP M⟩;have lj:=Wv (H:=H) (s:=4) m;have MB:decide (((b+1:Nat):Int)>0)=V:=bQ M;have Nm:((b+1:Nat):Int)-1=((b:Nat):Int):=(by omega);have U_:((b:Nat):Int)<(F c.bI:Int):=(by omega);have C:j8 (fT c.who) Pr.aO c.bI (b+1)=decide (x.aO<N.aO):=(by unfold j8;rw[g];simp only[f,m,mL]);rw[C]at d i;clear g f m C;by_cases c1:x.aO<N.aO
    .have d1:decide (x.aO>=N.aO)=ah:=b7 M;have o:=ae.mk (i.out (bQ c1));clear i d;refine cK @j3 @aU @wX ?_;refine du jG bD ?_
     repeat' (first|simp(maxSteps:=9999999) (disch:=first|exact dZ|fail) only[gW,reduceIte,aH,aC,j3,aU,wX, *]|refine dX ?_ ?_<;>(intro _;try omega))
     all_goals exact⟨F c.bI-(b+1+1),by omega,b+1+1,by omega,O,o,by simp⟩
    .have d1:decide (x.aO>=N.aO)=V:=bQ M;have n:=ae.mk (d.out (b7 c1));clear i d;refine cK @j3 @aU @wX ?_;refine du jG bD ?_
     repeat' (first|simp(maxSteps:=9999999) (disch:=first|exact dZ|fail) only[gW,reduceIte,aH,aC,j3,aU,wX, *]|refine dX ?_ ?_<;>(intro _;try omega))
     all_goals exact⟨_,_,O,by rw[n.out]⟩
 have gr:e=F c.bI:=by omega
 subst gr;have kA1:ae (ea (fT c.who) Pr.aO (-1) c.bI=V):=⟨kO1.out.2 λb p=>kP.out b p⟩;clear kP kO1;refine bh @j3 ?_;refine bC.gen λS l A eu dn=>?_;have f1:S.get 1=.ptr (.box (F h.boxes)) 0:=by rw[l];simp only[gW,reduceIte,aH,aC,g1]
 have f6:S.get 6=.v (.int .i64 (0:Nat)):=by rw[l];exact gR
 have fd:S.defers=[]:=by rw[A];simp only[gW,reduceIte,aH,aC,hd]
 clear l A eu dn g1 g5 hd;refine b_ (λz1 X K=>∃e:Nat,e<=F c.parts/\z1=F c.parts-e/\ae (∀b,b<e->j8 (fU c.who) dM c.parts b=V)/\X.get 1=.ptr (.box (F h.boxes)) 0/\X.get 6=.v (.int .i64 (e:Nat))/\X.defers=[]/\K=H) ?_ (F c.parts) _ _ ?_;rotate_left 1
 .exact⟨0,bY _,O,⟨λb p=>absurd p (nt _)⟩,f1,f6,fd,O⟩
 clear f1 f6 fd;rintro z1 X K ⟨e,hi,rfl,kP,g1,g6,hd,rfl⟩;by_cases k:e<F c.parts
 .have ev:sz=2:=ks.out.2 (by intro L;rw[L]at k;simp at k);subst ev;obtain⟨N,g⟩:∃N,c.parts[e]?=J N:=⟨_,aP k⟩;have ld:=zE (H:=K) (s:=2) g;have lk:=Wx (H:=K) (s:=2) g;have c51:=kcz.out N;have z48:=xH;have fO:(e:Int)<(F c.parts:Int):=by omega
  have d:ae (j8 (fU c.who) dM c.parts e=ah->dD c=440):=⟨λL=>by
   rcases kE.out with⟨-,-,j⟩|⟨j,-⟩
   .have:=kO2.out.1 j e k;rw[L]at this;cases this
   .exact j⟩
  have i:ae (j8 (fU c.who) dM c.parts e=V->∀b,b<e+1->j8 (fU c.who) dM c.parts b=V):=⟨λL b p=>by
   rcases dp b e with w|w
   .exact kP.out b w
   .rw[(M:b=e)];exact L⟩
  cases f:fU c.who N with
  |false=>
   rw[f]at c51;have n:ae (dD c=440):=⟨d.out (by unfold j8;rw[g];simp only[f,uO])⟩;clear g f;refine cK @j3 @aU @wY ?_;refine du jG bD ?_
   repeat' (first|simp(maxSteps:=9999999) (disch:=first|exact dZ|fail) only[gW,reduceIte,aH,aC,j3,aU,wY, *]|refine dX ?_ ?_<;>(intro _;try omega))
   all_goals exact⟨_,_,O,by rw[n.out]⟩
  |true=>
   rw[f]at c51;by_cases h0:e=0
   .subst h0;have o:=ae.mk (i.out (by unfold j8;rw[g];simp only[f,mL]));clear g f;refine cK @j3 @aU @wY ?_;refine du jG bD ?_
    repeat' (first|simp(maxSteps:=9999999) (disch:=first|exact dZ|fail) only[gW,reduceIte,aH,aC,j3,aU,wY, *]|refine dX ?_ ?_<;>(intro _;try omega))
    all_goals exact⟨F c.parts-1,by omega,0+1,by omega,O,o,by simp⟩
   .obtain⟨b,rfl⟩:∃b,e=b+1:=⟨e-1,by omega⟩;obtain⟨x,m⟩:∃x,c.parts[b]?=J x:=⟨_,aP M⟩;have lj:=Wx (H:=K) (s:=2) m;have MB:decide (((b+1:Nat):Int)>0)=V:=bQ M;have Nm:((b+1:Nat):Int)-1=((b:Nat):Int):=(by omega);have U_:((b:Nat):Int)<(F c.parts:Int):=(by omega);have C:j8 (fU c.who) dM c.parts (b+1)=decide (x.1<N.1):=(by unfold j8;rw[g];simp only[f,m,mL]);rw[C]at d i;clear g f m C;by_cases c1:x.1<N.1
    .have d1:decide (x.1>=N.1)=ah:=b7 M;have o:=ae.mk (i.out (bQ c1));clear i d;refine cK @j3 @aU @wY ?_;refine du jG bD ?_
     repeat' (first|simp(maxSteps:=9999999) (disch:=first|exact dZ|fail) only[gW,reduceIte,aH,aC,j3,aU,wY, *]|refine dX ?_ ?_<;>(intro _;try omega))
     all_goals exact⟨F c.parts-(b+1+1),by omega,b+1+1,by omega,O,o,by simp⟩
    .have d1:decide (x.1>=N.1)=V:=bQ M;have n:=ae.mk (d.out (b7 c1));clear i d;refine cK @j3 @aU @wY ?_;refine du jG bD ?_
     repeat' (first|simp(maxSteps:=9999999) (disch:=first|exact dZ|fail) only[gW,reduceIte,aH,aC,j3,aU,wY, *]|refine dX ?_ ?_<;>(intro _;try omega))
     all_goals exact⟨_,_,O,by rw[n.out]⟩
 have gr:e=F c.parts:=by omega
 subst gr;have kA2:ea (fU c.who) dM (-1) c.parts=V:=kO2.out.2 λb p=>kP.out b p;have pK:ae (dD c=0):=⟨by
  rcases kE.out with⟨j,-⟩|⟨-,j|j⟩
  .exact j
  .rw[kA1.out]at j;cases j
  .rw[kA2]at j;cases j⟩
 clear kA2;refine bh @j3 ?_;exact⟨_,_,O,by rw[pK.out]⟩
def EQ:Tryz.f52.results.toList=[]:=by kernel_rfl
def anP:Tryz.f16.results.toList=[.cell 4 35,.tmp 5]:=by kernel_rfl
def BU:Tryz.f56.results.toList=[]:=by kernel_rfl
def anR:Tryz.f18.results.toList=[.cell 4 35,.tmp 5]:=by kernel_rfl
section
variable {c:Ce} {a:CA} {x:U}
def aeN(ok:cA c a):dC (aq c a) 46 [x]=aq c {a with Pa:=x}:=by
 have b:=ok.d.len;have d:aq c a=(aM c.ep a.X a.Y a.C++bj c.doc a.p a.r a.n++[a.W])++[a.Pa]++[a.Z]:=by unfold aq;simp
 rw[d,Fg (B:=[a.Pa]) (B':=[x]) (by simp only[ck,b];rfl) O];unfold aq;simp
def aeO(ok:cA c a):dC (aq c a) 47 [x]=aq c {a with Z:=x}:=by
 have b:=ok.d.len;have d:aq c a=(aM c.ep a.X a.Y a.C++bj c.doc a.p a.r a.n++[a.W,a.Pa])++[a.Z]++[]:=by unfold aq;simp
 rw[d,Fg (B:=[a.Z]) (B':=[x]) (by simp only[ck,b];rfl) O];unfold aq;simp
def SK(ok:cA c a){x y:U}:F (aq c {a with Pa:=x,Z:=y})=48:=by unfold aq;rw[ck,ck,ok.d.len];unfold aM;rfl
def SJ(ok:cA c a){x y:U}(e:x.cW=V)(f:y.cW=V):(U.agg (aq c {a with Pa:=x,Z:=y})).bF=J (aq c {a with Pa:=x,Z:=y}):=by
 have b:=nC (ep:=c.ep) ok.x ok.y ok.cm;have h2:=ok.d.cells;have d:a.W.cW=V:=by obtain⟨k,l,j,-⟩:=ok.w;rw[j];rfl
 unfold U.bF at *
 simp only at b h2 ⊢;split at b
 .split at h2
  .rename_i g i;rw[av];unfold aq;rw[sZ,sZ,g,i];simp[d,e,f]
  .cases h2
 .cases b
def atr:cC aa 32=J 1:=by kernel_rfl
def ats:cC aa 33=J 1:=by kernel_rfl
def asv{H:Heap}{b:Nat}(ok:cA c a)(e:x.bF=J [x])(d:H.boxes[b]?=J (aq c a)):bV aa H 32 (.ptr (.box b) 46) x=J (H.put b (aq c {a with Pa:=x})):=by rw[fC e atr d O (by have:=ok.len;omega),aeN ok]
def stZ{H:Heap}{b:Nat}(ok:cA c a)(e:x.bF=J [x])(d:H.boxes[b]?=J (aq c a)):bV aa H 33 (.ptr (.box b) 47) x=J (H.put b (aq c {a with Z:=x})):=by rw[fC e ats d O (by have:=ok.len;omega),aeO ok]
end
def uY(h:Heap)(x y:U)(flat:List U)(n:Nat):Prop:=x=y∨∃b,x=.arr b 0 n n/\0<n/\h.boxes[b]?=J flat
def Iy{h f:Heap}{d}{D D2}(j:∀b cs,b≠d->h.boxes[b]?=J cs->f.boxes[b]?=J cs)(g:d<F f.boxes):(∀b cs,b≠d->h.boxes[b]?=J cs->((f.put d D).put d D2).boxes[b]?=J cs)/\((f.put d D).put d D2).boxes[d]?=J D2:=
 ⟨λb cs e i=>by rw[cd e,cd e];exact j b cs e i,dh (by simpa [Heap.put] using g)⟩
def X'{f:Heap}{b e}{D D2 cs}(d:b≠e)(g:f.boxes[b]?=J cs):((f.put e D).put e D2).boxes[b]?=J cs:=by rw[cd d,cd d];exact g
def RK{c:Ce}(h:c.e_=0):pV c.who:=(Ir c.who (-1) (ED h)).2
def amt(h:Heap)(c:Ce)(a:CA)(ok:cA c a)(N:dG a)(L:c.Fit)(mD:F c.bI<1000000)(i:∀s es,a.Pa=.list .nil s es->es=[])(p:Pr)(b0 b1 m:Nat)(n0:b0≠m)(n1:b1≠m)(k:h.boxes[b0]?=J (aq c a))(q:h.boxes[b1]?=J (aB p))(g:h.boxes[m]?=J (aq c0 a0))(e:Int)(l:List Pr)(d:fx c p=(e,l)):
 ∃r h',SC.call 52 [.ptr (.box b0) 0,.ptr (.box b1) 0,.ptr (.box m) 0] h=J (r,h')/\r=kY e/\(∀b cs,b≠m->h.boxes[b]?=J cs->h'.boxes[b]?=J cs)
  /\∃x,h'.boxes[m]?=J (if e=0 then aq c {a with Pa:=x} else aq c0 a0)/\(e=0->x.cW=V/\uY h' x a.Pa (bH l).flatten (F l)/\(x=a.Pa->l=c.bI)):=by
 have bx:=ok.cells;have bp:=rg p;obtain⟨_,h2,X,rfl,f⟩:=Lj h c a ok N L;obtain⟨-,-,-,-,-,l0⟩:=gL ok k;obtain⟨-,-,-,m4,-,m0⟩:=gL ok (f.box _ _ k);have mp:=jZ (f.box _ _ q);have z4:=py;have nX:=BB (pr:=me) O;have uf:=BA (pr:=me) O;unfold fx at d;by_cases t:dD c=0;rotate_left 1
 .have e4:dD c=440:=(Li c).resolve_left t;rw[av t]at d;obtain⟨rfl,rfl⟩:=eD d;have R:=ae.mk λb cs (_:b≠m) hq=>f.box b cs hq;have j:=ae.mk (f.box _ _ g);rw[e4]at X;have C:kY 440=.panic (lI 440):=rfl;rw[C]at X;clear ok N L k q g f i m4 mp;generalize aq c a=z1 at *
  generalize aq c0 a0=Z0 at *
  refine bL O F3 O ?_;refine bh @EQ ?_;exact⟨_,_,O,O,R.out,nl,j.out,λz0=>by cases z0⟩
 rw[aL (by simpa using t)]at d;rw[t]at X;have e0:kY 0=.ret (.tuple []):=rfl;rw[e0]at X;obtain⟨Z,ho,-,-⟩:=yk.1 t;obtain⟨kp,Y,v,y⟩:=ok.pa;have c53:=(Wd ok N L.2.2.1 (RK Z) p).call;cases A:fT c.who p with
 |false=>
  rw[av A]at d;obtain⟨rfl,rfl⟩:=eD d;rw[A]at c53;have R:=ae.mk λb cs (_:b≠m) hq=>f.box b cs hq;have j:=ae.mk (f.box _ _ g);have C:kY 420=.panic (lI 420):=rfl;clear ok N L k q g f i m4 t Z ho y v A;generalize aq c a=z1 at *
  generalize aq c0 a0=Z0 at *
  generalize aB p=z2 at *
  refine bL O F3 O ?_;refine bh @EQ ?_;exact⟨_,_,O,C.symm,R.out,nl,j.out,λz0=>by cases z0⟩
 |true=>
 rw[aL (by simp[A])]at d;rw[A]at c53;obtain⟨r3,h3,c54,x3,o⟩:=anz h2 kp Y c.bI p y (λz0=>by
  have:=i Y (bH c.bI) (by rw[v,z0]);cases hl:c.bI with
  |nil=>rfl|cons a b=>rw[hl]at this;cases this) (λz5 z6 x z3 hi hj hl=>Xx ho hi hj hl) mD
 have r0:=x3.box _ _ (f.box _ _ k);have S:=x3.box _ _ (f.box _ _ g);obtain⟨-,-,-,-,-,n0'⟩:=gL ok r0;have s1:=qy fS.len ok.len ok.cells S;have R:=ae.mk λb cs (hb:b≠m) hq=>x3.box b cs (f.box b cs hq);have r4:(h3.put m (aq c a)).boxes[m]?=J (aq c a):=dh (aT.1 S).1;have T:=λ(x:U) hx=>asv (x:=x) ok hx r4;have B:=ae.mk (aT.1 S).1;rw[v]at m4;unfold oc at d;unfold Kv at o;have e151:kY 151=.panic (lI 151):=rfl;cases hf:jv Pr.aO p.aO c.bI with
 |some z3=>
  rw[hf]at o d;simp only at o d;by_cases E:z3=p
  .rw[av E]at o d;obtain⟨rfl,rfl⟩:=eD d;subst o;have T:=T (.list kp Y (bH c.bI)) O;have j:=ae.mk (Iy (D:=aq c a) (D2:=aq c {a with Pa:=.list kp Y (bH c.bI)}) R.out B.out);have kep:=ae.mk v;clear ok N L k q g f x3 i t Z ho y v A r0 S r4 hf E d B;obtain⟨u,n⟩:∃u,aq c {a with Pa:=.list kp Y (bH c.bI)}=u:=⟨_,O⟩;rw[n]at T j;have kD:=ae.mk n;clear n;generalize aq c a=z1 at *
   generalize aq c0 a0=Z0 at *
   generalize aB p=z2 at *
   refine bL O F3 O ?_;refine bh @EQ ?_;exact⟨_,_,O,O,j.out.1,.list kp Y (bH c.bI),by rw[j.out.2,<-kD.out],λ_=>⟨O,.inl kep.out.symm,λ_=>trivial⟩⟩
  .rw[aL E]at o d;obtain⟨rfl,rfl⟩:=eD d;subst o;have j:=ae.mk S;clear ok N L k q g f x3 i t Z ho y v A r0 S r4 hf E d B s1 T;generalize aq c a=z1 at *
   generalize aq c0 a0=Z0 at *
   generalize aB p=z2 at *
   refine bL O F3 O ?_;refine bh @EQ ?_;exact⟨_,_,O,e151.symm,R.out,nl,j.out,λz0=>by cases z0⟩
 |none=>
  rw[hf]at o d;simp only at o d;obtain⟨b,rfl,pG,qi⟩:=o;obtain⟨rfl,rfl⟩:=eD d;have T:=T (.arr b 0 (F c.bI+1) (F c.bI+1)) O;have Mk:b≠m:=by have:=(aT.1 (f.box _ _ g)).1;omega
  have j:=ae.mk (Iy (D:=aq c a) (D2:=aq c {a with Pa:=.arr b 0 (F c.bI+1) (F c.bI+1)}) R.out B.out);have kP:=ae.mk (X' (D:=aq c a) (D2:=aq c {a with Pa:=.arr b 0 (F c.bI+1) (F c.bI+1)}) Mk qi);have kne:ae (U.arr b 0 (F c.bI+1) (F c.bI+1)≠a.Pa):=⟨by rw[v];intro z0;cases z0⟩;have kl:ae (F (jd Pr.aO p c.bI)=F c.bI+1):=⟨NC p c.bI⟩;clear ok N L k q g f x3 i t Z ho y v A r0 S r4 hf d B pG qi;obtain⟨u,n⟩:∃u,aq c {a with Pa:=.arr b 0 (F c.bI+1) (F c.bI+1)}=u:=⟨_,O⟩;rw[n]at T j kP;have kD:=ae.mk n;clear n;generalize aq c a=z1 at *
  generalize aq c0 a0=Z0 at *
  generalize aB p=z2 at *
  refine bL O F3 O ?_;refine bh @EQ ?_;exact⟨_,_,O,O,j.out.1,.arr b 0 (F c.bI+1) (F c.bI+1),by rw[j.out.2,<-kD.out],λ_=>⟨O,.inr ⟨b,by rw[kl.out],by rw[kl.out];omega,kP.out⟩,λz0=>absurd z0 kne.out⟩⟩
def uY.pJ{h h'}{x y}{flat}{n z B:Nat}{w}(j:2<=z)(g:F flat=n*z)(i:uY h x y flat n)(d:h.boxes[B]?=J [w])(k:∀b cs,b≠B->h.boxes[b]?=J cs->h'.boxes[b]?=J cs):uY h' x y flat n:=by
 rcases i with l|⟨b,m,f,e⟩
 .exact .inl l
 .refine .inr ⟨b,m,f,k b _ (λl=>?_) e⟩;subst l;rw[e]at d;injection d with d;have:=congrArg F d;rw[g]at this;have h2:1*2<=n*z:=jt f j;simp only[List.length_singleton]at this;omega
def amr(h:Heap)(c:Ce)(a:CA)(ok:cA c a)(v:dG a)(t:c.Fit)(n:F c.bI<1000000)(f:∀s es,a.Pa=.list .nil s es->es=[])(p:Pr)(e:Int)(l:List Pr)(u:fx c p=(e,l)):
 ∃r h',SC.call 16 [.agg (aq c a),.agg (aB p)] h=J (r,h')/\∃x,r=.ret (.tuple [.agg (if e=0 then aq c {a with Pa:=x} else aq c0 a0),I e])/\(e=0->uY h' x a.Pa (bH l).flatten (F l)/\(x=a.Pa->l=c.bI)):=by
 have Y:=ok.cells;have Z:=rg p;have z:=wi;obtain⟨b,d⟩:∃b,((h.push (aq c a)).push (aB p)).push (aq c0 a0)=b:=⟨_,O⟩;have l3:F b.boxes=F h.boxes+3:=by rw[<-d];simp[bE]
 have B:b.boxes[h.boxes.length]?=J (aq c a):=by rw[<-d];exact aN (aN (aK _ _))
 have C:b.boxes[F h.boxes+1]?=J (aB p):=by rw[<-d];refine aN ?_;have:=aK (h.push (aq c a)) (aB p);rwa [bE]at this
 have E:b.boxes[F h.boxes+2]?=J (aq c0 a0):=by rw[<-d];have:=aK ((h.push (aq c a)).push (aB p)) (aq c0 a0);rwa [bE,bE]at this
 obtain⟨_,h2,k,rfl,A,x,L,g⟩:=amt (b.push [.v (.int .i64 0)]) c a ok v t n f p (F h.boxes) (F h.boxes+1) (F h.boxes+2) M M (aN B) (aN C) (aN E) e l u;have q:h2.boxes[b.boxes.length]?=J [.v (.int .i64 0)]:=A _ _ M (aK _ _);obtain⟨R,T,o⟩:=F_ (pr:=me) O 52 _ b h2 e k q;have j:=o _ _ M L;have i:F (if e=0 then aq c {a with Pa:=x} else aq c0 a0)=48:=by
  split
  .exact SK ok (x:=x) (y:=a.Z)
  .exact fS.len
 have m:(U.agg (if e=0 then aq c {a with Pa:=x} else aq c0 a0)).bF=J (if e=0 then aq c {a with Pa:=x} else aq c0 a0):=by
  split
  .rename_i N;exact SJ ok (x:=x) (y:=a.Z) (g N).1 (by obtain⟨z2,s,e,-⟩:=ok.z;rw[e];rfl)
  .exact fS.cells
 have ld:=io i j;have st:=qy i i m j;rw[lH j]at st;have S:ae (e=0->uY R x a.Pa (bH l).flatten (F l)/\(x=a.Pa->l=c.bI)):=⟨λN=>⟨(g N).2.1.pJ (z:=4) M (Oo l) q o,(g N).2.2⟩⟩;have n1:F (h.push (aq c a)).boxes=F h.boxes+1:=bE _ _;have n2:F ((h.push (aq c a)).push (aB p)).boxes=F h.boxes+2:=by rw[bE,bE]
 clear A k L q o B C E j ok g u v t n f i;clear m;generalize aq c a=z1 at *
 generalize aq c0 a0=X at *
 generalize aB p=z0 at *
 unfold I at *
 refine bL O Tryz.func16 O ?_;refine bG @anP @d ?_;exact⟨_,_,O,x,O,S.out⟩
def amL(h:Heap)(c:Ce)(a:CA)(ok:cA c a)(L:dG a)(C:c.Fit)(mD:F c.parts<1000000)(i:∀s es,a.Z=.list .nil s es->es=[])(p:Int × Int)(b0 b1 m:Nat)(n0:b0≠m)(n1:b1≠m)(k:h.boxes[b0]?=J (aq c a))(o:h.boxes[b1]?=J (aZ p))(g:h.boxes[m]?=J (aq c0 a0))(e:Int)(l:List (Int × Int))(d:fB c p=(e,l)):
 ∃r h',SC.call 56 [.ptr (.box b0) 0,.ptr (.box b1) 0,.ptr (.box m) 0] h=J (r,h')/\r=kY e/\(∀b cs,b≠m->h.boxes[b]?=J cs->h'.boxes[b]?=J cs)
  /\∃x,h'.boxes[m]?=J (if e=0 then aq c {a with Z:=x} else aq c0 a0)/\(e=0->x.cW=V/\uY h' x a.Z (bO l).flatten (F l)/\(x=a.Z->l=c.parts)):=by
 have bx:=ok.cells;have bp:=rh p;obtain⟨_,h2,c49,rfl,f⟩:=Lj h c a ok L C;obtain⟨-,-,-,-,-,l0⟩:=gL ok k;obtain⟨-,-,w4,p4,m4,m0⟩:=gL ok (f.box _ _ k);have mp:=(vG (f.box _ _ o)).2.2;have z3:=py;have u23:=cU;have u32:=lP;obtain⟨kw,sw,ew,-⟩:=ok.w;obtain⟨kq,sq,eq,-⟩:=ok.pa;rw[ew]at w4;rw[eq]at p4;clear ew eq;have xq:=cG c.who;have il1:F (bH c.bI)=F c.bI:=by unfold bH;rw[br]
 have UP:decide ((F c.bI:Int)=(F c.who:Int))=decide (F c.bI=F c.who):=by by_cases T:F c.bI=F c.who<;>simp[T];omega
 have nX:=BB (pr:=me) O;have uf:=BA (pr:=me) O;unfold fB at d;by_cases t:dD c=0;rotate_left 1
 .have e4:dD c=440:=(Li c).resolve_left t;rw[av t]at d;obtain⟨rfl,rfl⟩:=eD d;have A:=ae.mk λb cs (_:b≠m) hq=>f.box b cs hq;have j:=ae.mk (f.box _ _ g);rw[e4]at c49;have S:kY 440=.panic (lI 440):=rfl;rw[S]at c49;clear ok L C k o g f i m4 mp;generalize aq c a=z0 at *
  generalize aq c0 a0=Z0 at *
  refine bL O CQ O ?_;refine bh @BU ?_;exact⟨_,_,O,O,A.out,nl,j.out,λT=>by cases T⟩
 rw[aL (by simpa using t)]at d;rw[t]at c49;have e0:kY 0=.ret (.tuple []):=rfl;rw[e0]at c49;obtain⟨hN,-,ho,-⟩:=yk.1 t;obtain⟨kp,sp,v,u⟩:=ok.z;have c57:=(We ok L C.2.2.1 (RK hN) p).call;cases y:fU c.who p with
 |false=>
  rw[av y]at d;obtain⟨rfl,rfl⟩:=eD d;rw[y]at c57;have A:=ae.mk λb cs (_:b≠m) hq=>f.box b cs hq;have j:=ae.mk (f.box _ _ g);have S:kY 400=.panic (lI 400):=rfl;clear ok L C k o g f i m4 t hN ho u v y;generalize aq c a=z0 at *
  generalize aq c0 a0=Z0 at *
  generalize aZ p=z1 at *
  refine bL O CQ O ?_;refine bh @BU ?_;exact⟨_,_,O,S.symm,A.out,nl,j.out,λT=>by cases T⟩
 |true=>
 rw[aL (by simp[y])]at d;rw[y]at c57;by_cases N:F c.bI=F c.who;rotate_left 1
 .rw[av N]at d;obtain⟨rfl,rfl⟩:=eD d;rw[b7 N]at UP;have A:=ae.mk λb cs (_:b≠m) hq=>f.box b cs hq;have j:=ae.mk (f.box _ _ g);have e420:kY 420=.panic (lI 420):=rfl;clear ok L C k o g f i m4 t hN ho u v y N;generalize aq c a=z0 at *
  generalize aq c0 a0=Z0 at *
  generalize aZ p=z1 at *
  generalize bH c.bI=PL1 at *
  refine bL O CQ O ?_
  repeat' (first|simp(maxSteps:=9999999) (disch:=first|exact dZ|fail) only[gW,reduceIte,aH,aC,BU, *]|refine dX ?_ ?_<;>(intro _;try omega))
  all_goals exact⟨_,_,O,e420.symm,A.out,nl,j.out,λT=>by cases T⟩
 rw[aL (by simpa using N)]at d;rw[bQ N]at UP;obtain⟨r3,h3,c54,x3,q⟩:=anA h2 kp sp c.parts p u (λT=>by
  have:=i sp (bO c.parts) (by rw[v,T]);cases hl:c.parts with
  |nil=>rfl|cons a b=>rw[hl]at this;cases this) (λz4 z5 x z2 hi hj hl=>Xx ho hi hj hl) mD
 have r0:=x3.box _ _ (f.box _ _ k);have X:=x3.box _ _ (f.box _ _ g);obtain⟨-,-,-,-,-,n0'⟩:=gL ok r0;have s1:=qy fS.len ok.len ok.cells X;have A:=ae.mk λb cs (hb:b≠m) hq=>x3.box b cs (f.box b cs hq);have r4:(h3.put m (aq c a)).boxes[m]?=J (aq c a):=dh (aT.1 X).1;have Y:=λ(x:U) hx=>stZ (x:=x) ok hx r4;have R:=ae.mk (aT.1 X).1;rw[v]at m4;unfold oc at d;unfold Kw at q;have e151:kY 151=.panic (lI 151):=rfl;cases hf:jv dM p.1 c.parts with
 |some z2=>
  rw[hf]at q d;simp only at q d;by_cases E:z2=p
  .rw[av E]at q d;obtain⟨rfl,rfl⟩:=eD d;subst q;have Y:=Y (.list kp sp (bO c.parts)) O;have j:=ae.mk (Iy (D:=aq c a) (D2:=aq c {a with Z:=.list kp sp (bO c.parts)}) A.out R.out);have kep:=ae.mk v;clear ok L C k o g f x3 i t hN ho u v y r0 X r4 hf E d R;obtain⟨B,n⟩:∃B,aq c {a with Z:=.list kp sp (bO c.parts)}=B:=⟨_,O⟩;rw[n]at Y j;have kD:=ae.mk n;clear n;generalize aq c a=z0 at *
   generalize aq c0 a0=Z0 at *
   generalize aZ p=z1 at *
   refine bL O CQ O ?_;refine bh @BU ?_;exact⟨_,_,O,O,j.out.1,.list kp sp (bO c.parts),by rw[j.out.2,<-kD.out],λ_=>⟨O,.inl kep.out.symm,λ_=>trivial⟩⟩
  .rw[aL E]at q d;obtain⟨rfl,rfl⟩:=eD d;subst q;have j:=ae.mk X;clear ok L C k o g f x3 i t hN ho u v y r0 X r4 hf E d R s1 Y;generalize aq c a=z0 at *
   generalize aq c0 a0=Z0 at *
   generalize aZ p=z1 at *
   refine bL O CQ O ?_;refine bh @BU ?_;exact⟨_,_,O,e151.symm,A.out,nl,j.out,λT=>by cases T⟩
 |none=>
  rw[hf]at q d;simp only at q d;obtain⟨b,rfl,pG,qi⟩:=q;obtain⟨rfl,rfl⟩:=eD d;have Y:=Y (.arr b 0 (F c.parts+1) (F c.parts+1)) O;have Mk:b≠m:=by have:=(aT.1 (f.box _ _ g)).1;omega
  have j:=ae.mk (Iy (D:=aq c a) (D2:=aq c {a with Z:=.arr b 0 (F c.parts+1) (F c.parts+1)}) A.out R.out);have kP:=ae.mk (X' (D:=aq c a) (D2:=aq c {a with Z:=.arr b 0 (F c.parts+1) (F c.parts+1)}) Mk qi);have kne:ae (U.arr b 0 (F c.parts+1) (F c.parts+1)≠a.Z):=⟨by rw[v];intro T;cases T⟩;have kl:ae (F (jd dM p c.parts)=F c.parts+1):=⟨NC p c.parts⟩;clear ok L C k o g f x3 i t hN ho u v y r0 X r4 hf d R pG qi;obtain⟨B,n⟩:∃B,aq c {a with Z:=.arr b 0 (F c.parts+1) (F c.parts+1)}=B:=⟨_,O⟩;rw[n]at Y j kP;have kD:=ae.mk n;clear n;generalize aq c a=z0 at *
  generalize aq c0 a0=Z0 at *
  generalize aZ p=z1 at *
  refine bL O CQ O ?_;refine bh @BU ?_;exact⟨_,_,O,O,j.out.1,.arr b 0 (F c.parts+1) (F c.parts+1),by rw[j.out.2,<-kD.out],λ_=>⟨O,.inr ⟨b,by rw[kl.out],by rw[kl.out];omega,kP.out⟩,λT=>absurd T kne.out⟩⟩
def amJ(h:Heap)(c:Ce)(a:CA)(ok:cA c a)(v:dG a)(t:c.Fit)(n:F c.parts<1000000)(f:∀s es,a.Z=.list .nil s es->es=[])(p:Int × Int)(e:Int)(l:List (Int × Int))(u:fB c p=(e,l)):
 ∃r h',SC.call 18 [.agg (aq c a),.agg (aZ p)] h=J (r,h')/\∃x,r=.ret (.tuple [.agg (if e=0 then aq c {a with Z:=x} else aq c0 a0),I e])/\(e=0->uY h' x a.Z (bO l).flatten (F l)/\(x=a.Z->l=c.parts)):=by
 have Y:=ok.cells;have b2:=rh p;have z:=wi;obtain⟨b,d⟩:∃b,((h.push (aq c a)).push (aZ p)).push (aq c0 a0)=b:=⟨_,O⟩;have l3:F b.boxes=F h.boxes+3:=by rw[<-d];simp[bE]
 have B:b.boxes[h.boxes.length]?=J (aq c a):=by rw[<-d];exact aN (aN (aK _ _))
 have C:b.boxes[F h.boxes+1]?=J (aZ p):=by rw[<-d];refine aN ?_;have:=aK (h.push (aq c a)) (aZ p);rwa [bE]at this
 have E:b.boxes[F h.boxes+2]?=J (aq c0 a0):=by rw[<-d];have:=aK ((h.push (aq c a)).push (aZ p)) (aq c0 a0);rwa [bE,bE]at this
 obtain⟨_,h2,k,rfl,A,x,L,g⟩:=amL (b.push [.v (.int .i64 0)]) c a ok v t n f p (F h.boxes) (F h.boxes+1) (F h.boxes+2) M M (aN B) (aN C) (aN E) e l u;have q:h2.boxes[b.boxes.length]?=J [.v (.int .i64 0)]:=A _ _ M (aK _ _);obtain⟨R,T,o⟩:=F_ (pr:=me) O 56 _ b h2 e k q;have j:=o _ _ M L;have i:F (if e=0 then aq c {a with Z:=x} else aq c0 a0)=48:=by
  split
  .exact SK ok (x:=a.Pa) (y:=x)
  .exact fS.len
 have m:(U.agg (if e=0 then aq c {a with Z:=x} else aq c0 a0)).bF=J (if e=0 then aq c {a with Z:=x} else aq c0 a0):=by
  split
  .rename_i N;exact SJ ok (x:=a.Pa) (y:=x) (by obtain⟨z2,s,e,-⟩:=ok.pa;rw[e];rfl) (g N).1
  .exact fS.cells
 have ld:=io i j;have st:=qy i i m j;rw[lH j]at st;have S:ae (e=0->uY R x a.Z (bO l).flatten (F l)/\(x=a.Z->l=c.parts)):=⟨λN=>⟨(g N).2.1.pJ (z:=2) M (Pz l) q o,(g N).2.2⟩⟩;have n1:F (h.push (aq c a)).boxes=F h.boxes+1:=bE _ _;have n2:F ((h.push (aq c a)).push (aZ p)).boxes=F h.boxes+2:=by rw[bE,bE]
 clear A k L q o B C E j ok g u v t n f i;clear m;generalize aq c a=z1 at *
 generalize aq c0 a0=X at *
 generalize aZ p=z0 at *
 unfold I at *
 refine bL O Tryz.func18 O ?_;refine bG @anR @d ?_;exact⟨_,_,O,x,O,S.out⟩
def anK:Tryz.f10.results.toList=[.tmp 2]:=by kernel_rfl
def IU{z}:∀(L:List (List U)) (A:List U),(∀r∈L,F r=z)->nI z (A++L.flatten) (F A) (F L)=L
 | [],_,_=>rfl
 |r::L,A,h=>by
  have b:=h r (.head _);have d:=IU L (A++r) λg e=>h g (.tail _ e);unfold nI at *
  rw[ef,List.range_succ_eq_map,eI,Ad,jP];congr 1
  .rw[Nat.zero_mul,Nat.add_zero,CD];rw[List.take_left' b]
  .rw[iO,ck,b]at d
   conv=>rhs;rw[<-d]
   refine List.map_congr_left λf _=>?_;simp only[Function.comp,abv];rw[(M:F A+(f*z+z)=F A+z+f*z)]
def amF(l):nI 4 (bH l).flatten 0 (F l)=bH l:=by have:=IU (z:=4) (bH l) [] (by intro e b;unfold bH at b;obtain⟨d,-,rfl⟩:=jg.1 b;rfl);rw[dO,show(F (bH l))=F l by unfold bH;rw[br]]at this;exact this
def arS(l):nI 2 (bO l).flatten 0 (F l)=bO l:=by have:=IU (z:=2) (bO l) [] (by intro e b;unfold bO at b;obtain⟨d,-,rfl⟩:=jg.1 b;rfl);rw[dO,uH]at this;exact this
def agB(h:Heap){c:Ce}{a:CA}(ok:cA c a)(g:dG a):∃r h',SC.call 10 [.agg (aq c a)] h=J (r,h')/\∃b,r=.ret (.v (.bool b))/\(b=V->F c.rows<=80/\F c.ac<=80/\F c.ai<=80/\F c.doc.pa<=20/\F c.doc.rv<=20/\F c.doc.nd<=20/\F c.who<=80/\F c.bI<=20/\F c.parts<=20):=by
 have s:=ok.cells;obtain⟨b,f,d⟩:=aj5 ok g;have d:=d.call;obtain⟨y,A,B,j,k,-⟩:=gL ok (aK h (aq c a));have R:=py;have p:=lP;have q:=mV;obtain⟨u,E,e,-⟩:=ok.pa;obtain⟨v,L,ez,-⟩:=ok.z;rw[e]at j;rw[ez]at k;have n:F (bH c.bI)=F c.bI:=by unfold bH;rw[br]
 have o:=uH c.parts;have i:=ae.mk f;clear ok g f e ez;generalize aq c a=N at *
 generalize bH c.bI=l at *
 generalize bO c.parts=m at *
 refine bL O Tryz.func10 O ?_
 repeat' (first|simp(maxSteps:=9999999) (disch:=first|exact dZ|fail) only[gW,reduceIte,aH,aC,anK,bg, *]|refine dX ?_ ?_<;>(intro _;try omega))
 all_goals exact⟨_,_,O,_,O,λC=>by
  first
   |(have t:=i.out (by assumption);simp only[decide_eq_true_eq]at *;omega)
   |(simp at C)⟩
def LD:List aR:=LC++[14,15,10]
def ZD(g:aR):Nat:=if g=16 then 4 else if g=18 then 2 else 0
noncomputable def Iv:aR->Option (List U->Heap->Option (U × Heap)):=mb SC LD ZD ul
noncomputable abbrev SD:=whole aa Gt Iv
def Lc:mo Iv LD:=λd b=>⟨uq SC d,by unfold Iv mb;rw[av (by simpa using b)];rfl⟩
structure ol(a:CA):Prop where
 pa:∀s es,a.Pa=.list .nil s es->es=[]
 z:∀s es,a.Z=.list .nil s es->es=[]
def iM(c:Ce)(p:Pr):Ce:=if (fx c p).1=0 then {c with bI:=(fx c p).2} else c0
def jx(c:Ce)(p:Int × Int):Ce:=if (fB c p).1=0 then {c with parts:=(fB c p).2} else c0
def D4:∀l:List Pr,dm (bH l)=bH l
 | []=>rfl
 |p::l=>by show a_ (aB p)::dm (bH l)=_;rw[D4 l];rfl
def Ho:∀l:List (Int × Int),dm (bO l)=bO l
 | []=>rfl
 |p::l=>by show a_ (aZ p)::dm (bO l)=_;rw[Ho l];rfl
def Xe:ol a0:=⟨λ_ _ h=>by cases h;rfl,λ_ _ h=>by cases h;rfl⟩
section
variable {c:Ce} {a:CA} {z:Nat} {h:Heap}
def nY{x:U}{k:Tok}{s:Nat}{es:List (List U)}(e:x=.list k s es)(b:al x=x):ij z h x=x:=by subst e;rw[al]at b;injection b with d h2 f;rw[ij,d]
def HL:∀a b:List U,ny z h (a++b)=ny z h a++ny z h b
 | [],_=>rfl
 |x::a,b=>by rw[ey,ny,HL a b];rfl
def ajd(l:List UInt8):ny z h (l.map fJ)=l.map fJ:=by
 induction l with
 |nil=>rfl|cons d l b=>show ij z h (fJ d)::ny z h (l.map fJ)=_;rw[b];rfl
def AA(ok:cA c a)(b:dG a){x y d e:U}(n:ij z h x=d)(o:ij z h y=e):ny z h (aq c {a with Pa:=x,Z:=y})=aq c {a with Pa:=d,Z:=e}:=by obtain⟨p,A,T,f,-⟩:=ok.x.form;obtain⟨q,B,g,-⟩:=ok.y;obtain⟨r,C,i,-⟩:=ok.cm;obtain⟨s,L,j,-⟩:=ok.d.p;obtain⟨t,N,k,-⟩:=ok.d.r;obtain⟨u,R,l,-⟩:=ok.d.n;obtain⟨v,S,m,-⟩:=ok.w;unfold aq aM bj;rw[HL,HL,HL,ajd];simp only[ny,nY f b.X,nY g b.Y,nY i b.C,nY j b.p,nY k b.r,nY l b.n,nY m b.W,n,o];rfl
def aka(ok:cA c a)(b:dG a)(l:ol a)(s:c.Fit)(m:F c.bI<1000000)(p:Pr):∃e,cA (iM c p) e/\dG e/\ol e/\∀h,SD.call 16 [.agg (aq c a),.agg (aB p)] h=J (.ret (.tuple [.agg (aq (iM c p) e),I (fx c p).1]),h):=by
 obtain⟨X,t,B,x,rfl,u⟩:=amr ⟨[],[],0,[]⟩ c a ok b s m l.pa p (fx c p).1 (fx c p).2 O;have n:a_ [U.agg (aq c a),.agg (aB p)]=[.agg (aq c a),.agg (aB p)]:=by simp only[a_,al,oG b,EJ]
 have y:aA 0 0 0 [U.agg (aq c a),.agg (aB p)]=V:=by simp only[aA,au,lV ok b];rfl
 obtain⟨N,S,ez,-⟩:=ok.z;have d:∀(e:CA),cA (iM c p) e->dG e->ny 4 t (if (fx c p).1=0 then aq c {a with Pa:=x} else aq c0 a0)=aq (iM c p) e->∀h,SD.call 16 [.agg (aq c a),.agg (aB p)] h=J (.ret (.tuple [.agg (aq (iM c p) e),I (fx c p).1]),h):=by
  intro e g f o;refine WT (z:=3) (L:=LD) O O n y B ?_ ?_
  .simp only[ij,ny,o];rfl
  .simp[au,aA,lV g f,I]
 by_cases i:(fx c p).1=0
 .rw[av i]at d;have k:iM c p={c with bI:=(fx c p).2}:=by unfold iM;rw[av i]
  rw[k]at d ⊢;obtain⟨j,C⟩:=u i;rcases j with j|⟨T,rfl,A,v⟩
  .have q:=C j;rw[q]at d ⊢;obtain⟨E,R,r,-⟩:=ok.pa;exact⟨a,ok,b,l,d a ok b (by rw[j];exact AA ok b (nY r b.Pa) (nY ez b.Z))⟩
  .have g:cA {c with bI:=(fx c p).2} {a with Pa:=.list .held 4 (bH (fx c p).2)}:=⟨ok.x,ok.y,ok.cm,ok.d,ok.w,⟨.held,4,O,λ_=>rfl⟩,ok.z⟩;have f:dG {a with Pa:=.list .held 4 (bH (fx c p).2)}:=⟨b.X,b.Y,b.C,b.p,b.r,b.n,b.W,by simp only[al,D4];rfl,b.Z⟩;refine⟨_,g,f,⟨λ_ _ B=>(by cases B),l.z⟩,d _ g f ?_⟩;refine AA ok b ?_ (nY ez b.Z);rw[ij,v];simp only;rw[av ⟨by rw[Oo];omega,by omega⟩,amF]
 .rw[aL i]at d;have k:iM c p=c0:=by unfold iM;rw[aL i]
  rw[k]at d ⊢;exact⟨a0,fS,uc,Xe,d a0 fS uc (AA fS uc (nY O O) (nY O O))⟩
def akc(ok:cA c a)(b:dG a)(l:ol a)(s:c.Fit)(n:F c.parts<1000000)(p:Int × Int):∃e,cA (jx c p) e/\dG e/\ol e/\∀h,SD.call 18 [.agg (aq c a),.agg (aZ p)] h=J (.ret (.tuple [.agg (aq (jx c p) e),I (fB c p).1]),h):=by
 obtain⟨X,t,B,x,rfl,u⟩:=amJ ⟨[],[],0,[]⟩ c a ok b s n l.z p (fB c p).1 (fB c p).2 O;have o:a_ [U.agg (aq c a),.agg (aZ p)]=[.agg (aq c a),.agg (aZ p)]:=by simp only[a_,al,oG b];rfl
 have y:aA 0 0 0 [U.agg (aq c a),.agg (aZ p)]=V:=by simp only[aA,au,lV ok b];rfl
 obtain⟨E,R,m,-⟩:=ok.pa;have d:∀(e:CA),cA (jx c p) e->dG e->ny 2 t (if (fB c p).1=0 then aq c {a with Z:=x} else aq c0 a0)=aq (jx c p) e->∀h,SD.call 18 [.agg (aq c a),.agg (aZ p)] h=J (.ret (.tuple [.agg (aq (jx c p) e),I (fB c p).1]),h):=by
  intro e g f q;refine WT (z:=1) (L:=LD) O O o y B ?_ ?_
  .simp only[ij,ny,q];rfl
  .simp[au,aA,lV g f,I]
 by_cases i:(fB c p).1=0
 .rw[av i]at d;have k:jx c p={c with parts:=(fB c p).2}:=by unfold jx;rw[av i]
  rw[k]at d ⊢;obtain⟨j,C⟩:=u i;rcases j with j|⟨T,rfl,A,v⟩
  .have r:=C j;rw[r]at d ⊢;obtain⟨N,S,ez,-⟩:=ok.z;exact⟨a,ok,b,l,d a ok b (by rw[j];exact AA ok b (nY m b.Pa) (nY ez b.Z))⟩
  .have g:cA {c with parts:=(fB c p).2} {a with Z:=.list .held 2 (bO (fB c p).2)}:=⟨ok.x,ok.y,ok.cm,ok.d,ok.w,ok.pa,⟨.held,2,O,λ_=>rfl⟩⟩;have f:dG {a with Z:=.list .held 2 (bO (fB c p).2)}:=⟨b.X,b.Y,b.C,b.p,b.r,b.n,b.W,b.Pa,by simp only[al,Ho];rfl⟩;refine⟨_,g,f,⟨l.pa,λ_ _ B=>by cases B⟩,d _ g f ?_⟩;refine AA ok b (nY m b.Pa) ?_;rw[ij,v];simp only;rw[av ⟨by rw[Pz];omega,by omega⟩,arS]
 .rw[aL i]at d;have k:jx c p=c0:=by unfold jx;rw[aL i]
  rw[k]at d ⊢;exact⟨a0,fS,uc,Xe,d a0 fS uc (AA fS uc (nY O O) (nY O O))⟩
def V_(ok:cA c a)(b:dG a)(d:c.Fit):bN SD 14 [.agg (aq c a)] (I (dD c)):=by obtain⟨_,_,e,rfl⟩:=aeQ ⟨[],[],0,[]⟩ c a ok b d;exact bN.qx (L:=LD) e O (by simp only[a_,al,oG b]) (by simp only[aA,au,lV ok b];rfl) O rfl
def akh(ok:cA c a)(b:dG a)(d:c.Fit):bN SD 15 [.agg (aq c a)] (I (dD c)):=by obtain⟨_,_,e,rfl⟩:=aod ⟨[],[],0,[]⟩ c a ok b d;exact bN.qx (L:=LD) e O (by simp only[a_,al,oG b]) (by simp only[aA,au,lV ok b];rfl) O rfl
def aj3(ok:cA c a)(d:dG a):∃b,(b=V->F c.rows<=80/\F c.ac<=80/\F c.ai<=80/\F c.doc.pa<=20/\F c.doc.rv<=20/\F c.doc.nd<=20/\F c.who<=80/\F c.bI<=20/\F c.parts<=20)/\bN SD 10 [.agg (aq c a)] (.v (.bool b)):=by obtain⟨_,_,f,b,rfl,e⟩:=agB ⟨[],[],0,[]⟩ ok d;exact⟨b,e,bN.qx (L:=LD) f O (by simp only[a_,al,oG d]) (by simp only[aA,au,lV ok d];rfl) O O⟩
end
def IH:Tryz.f22.results.toList=[.tmp 4]:=by kernel_rfl
def IC:Tryz.f107.results.toList=[.tmp 4]:=by kernel_rfl
def II:Tryz.f47.results.toList=[.tmp 4]:=by kernel_rfl
def arp(h:Heap){x y:U}{l:List Int}(n:IL x l)(o:IL y l)(N:F l<=1000000):∃r h',SD.call 22 [x,y] h=J (r,h')/\h'=h/\r=.ret (.v (.bool V)):=by
 obtain⟨R,s,rfl,g⟩:=n;obtain⟨p,k,rfl,d⟩:=o;have j:=ae.mk (aj g d);clear g d;have v:=cU;have T:=eX;have t:=cG l;refine bL O Tryz.func22 O ?_;refine bh @IH ?_;refine b_ (λu f H=>∃e:Nat,e<=F l/\u=F l-e/\f.get 0=.list R s (ints l)/\f.get 1=.list p k (ints l)/\f.get 5=.v (.int .i64 (e:Nat))/\f.defers=[]/\H=h) ?_ (F l) _ _ ?_;rotate_left 1
 .refine⟨0,bY _,O,?_,?_,?_,?_,O⟩<;>exact gR
 rintro u f H ⟨e,L,rfl,A,B,C,D,rfl⟩;by_cases b:e<F l
 .have i:s=1:=j.out.1 (by intro q;rw[q]at b;simp at b);have d:k=1:=j.out.2 (by intro q;rw[q]at b;simp at b);subst i;subst d;have S:=eS (H:=H) (s:=1) b;have m:(e:Int)<(F l:Int):=by omega
  generalize af l e=X at *
  refine bG @IH @aU ?_;refine du Lc bD ?_
  repeat' (first|simp(maxSteps:=9999999) (disch:=first|exact dZ|fail) only[gW,reduceIte,aH,aC,IH,aU, *]|refine dX ?_ ?_<;>(intro _;try omega))
  all_goals exact⟨F l-(e+1),by omega,e+1,by omega,O,by simp⟩
 .have:e=F l:=by omega
  subst this;refine bh @IH ?_;exact⟨_,_,O,O,O⟩
def arn(h:Heap){x y:U}{l:List Int}(n:IL x l)(o:IL y l)(N:F l<=1000000):∃r h',SD.call 107 [x,y] h=J (r,h')/\h'=h/\r=.ret (.v (.bool V)):=by
 obtain⟨R,s,rfl,g⟩:=n;obtain⟨p,k,rfl,d⟩:=o;have j:=ae.mk (aj g d);clear g d;have v:=cU;have T:=eX;have t:=cG l;refine bL O Tryz.func107 O ?_;refine bh @IC ?_;refine b_ (λu f H=>∃e:Nat,e<=F l/\u=F l-e/\f.get 0=.list R s (ints l)/\f.get 1=.list p k (ints l)/\f.get 5=.v (.int .i64 (e:Nat))/\f.defers=[]/\H=h) ?_ (F l) _ _ ?_;rotate_left 1
 .refine⟨0,bY _,O,?_,?_,?_,?_,O⟩<;>exact gR
 rintro u f H ⟨e,L,rfl,A,B,C,D,rfl⟩;by_cases b:e<F l
 .have i:s=1:=j.out.1 (by intro q;rw[q]at b;simp at b);have d:k=1:=j.out.2 (by intro q;rw[q]at b;simp at b);subst i;subst d;have S:=eS (H:=H) (s:=1) b;have m:(e:Int)<(F l:Int):=by omega
  generalize af l e=X at *
  refine bG @IC @aU ?_;refine du Lc bD ?_
  repeat' (first|simp(maxSteps:=9999999) (disch:=first|exact dZ|fail) only[gW,reduceIte,aH,aC,IC,aU, *]|refine dX ?_ ?_<;>(intro _;try omega))
  all_goals exact⟨F l-(e+1),by omega,e+1,by omega,O,by simp⟩
 .have:e=F l:=by omega
  subst this;refine bh @IC ?_;exact⟨_,_,O,O,O⟩
def art(h:Heap){x y:U}{l:List Pr}(o:PL x l)(f:PL y l)(S:F l<=1000000):∃r h',SD.call 47 [x,y] h=J (r,h')/\h'=h/\r=.ret (.v (.bool V)):=by
 obtain⟨T,t,rfl,i⟩:=o;obtain⟨p,m,rfl,d⟩:=f;have k:=ae.mk (aj i d);clear i d;have A:=lP;have B:=qA;have u:F (bH l)=F l:=by unfold bH;rw[br]
 refine bL O Tryz.func47 O ?_;refine bh @II ?_;refine b_ (λv g H=>∃e:Nat,e<=F l/\v=F l-e/\g.get 0=.list T t (bH l)/\g.get 1=.list p m (bH l)/\g.get 5=.v (.int .i64 (e:Nat))/\g.defers=[]/\H=h) ?_ (F l) _ _ ?_;rotate_left 1
 .refine⟨0,bY _,O,?_,?_,?_,?_,O⟩<;>exact gR
 rintro v g H ⟨e,R,rfl,C,D,L,N,rfl⟩;by_cases b:e<F l
 .have j:t=4:=k.out.1 (by intro s;rw[s]at b;simp at b);have d:m=4:=k.out.2 (by intro s;rw[s]at b;simp at b);subst j;subst d;obtain⟨y,f⟩:∃y,l[e]?=J y:=⟨_,aP b⟩;have X:=qt (H:=H) (s:=4) f;have q:=λx z=>W_ (x:=x) (y:=z) y y;rw[bQ O]at q;have n:(e:Int)<(F l:Int):=by omega
  clear f;generalize aB y=Y at *
  refine bG @II @aU ?_;refine du Lc bD ?_
  repeat' (first|simp(maxSteps:=9999999) (disch:=first|exact dZ|fail) only[gW,reduceIte,aH,aC,II,aU, *]|refine dX ?_ ?_<;>(intro _;try omega))
  all_goals exact⟨F l-(e+1),by omega,e+1,by omega,O,by simp⟩
 .have:e=F l:=by omega
  subst this;refine bh @II ?_;exact⟨_,_,O,O,O⟩
def agu(d)(a b):cV aa (Op.equalIn (d+1) 5 (.int .u8 a) (.int .u8 b))=J (a==b):=by unfold Op.equalIn;rw[gt,BS Tryz.underlying5,iR];simp[cV];rfl
def X_{e}{P}(f)(init:e):∀l:List Nat,(∀i∈l,cV P (f i init)=J (.yield init))->cV P (forIn l init f)=J init
 | [],_=>rfl
 |i::l,h=>by rw[List.forIn_cons,gt,h i (.head _),iR];exact X_ f init l λd b=>h d (.tail _ b)
def uN(l:List UInt8):Array aG:=(l.map λb=>Value.int .u8 b.toNat).toArray
def atW(l):(U.agg (l.map fJ)).flat=J (.agg (uN l)):=by
 have:tN (l.map fJ)=J (l.map λb=>Value.int .u8 b.toNat):=by
  induction l with
  |nil=>rfl|cons b l d=>show(tN (l.map fJ)).map (Value.int .u8 b.toNat::·)=_;rw[d];rfl
 show(tN (l.map fJ)).map (λl=>Value.agg l.toArray)=_;rw[this];rfl
def XH{l}{i}{b}(h:l[i]?=J b):cV aa (part 5 (uN l) i)=J (.int .u8 b.toNat):=by
 unfold part;have d:cV aa (isAgg 5)=J ah:=by kernel_rfl
 rw[gt,d,iR];have:(uN l)[i]?=J (.int .u8 b.toNat):=by unfold uN;simp[h]
 simp[this];rfl
def ags{x y}{l:List UInt8}(k:F l=32):cy aa .eql 29 x y (.agg (l.map fJ)) (.agg (l.map fJ))=J (.v (.bool V)):=by
 have f:cV aa (eqGuard .eql 29 x y (.agg (uN l)) (.agg (uN l)))=J ():=by kernel_rfl
 have b:cy aa .eql 29 x y (.agg (l.map fJ)) (.agg (l.map fJ))=At aa .eql 29 x y (.agg (l.map fJ)) (.agg (l.map fJ)):=rfl;rw[b];unfold At;rw[atW];simp only;rw[gt,f,iR];show(cV aa (do pure (.bool (<-Op.equal 29 (.agg (uN l)) (.agg (uN l)))))).bind jf=_;rw[gt];have:cV aa (Op.equalIn 10000 29 (.agg (uN l)) (.agg (uN l)))=J V:=by
  unfold Op.equalIn;have g:cV aa (sizeOf 5)=J 1:=by kernel_rfl
  rw[gt,BS KE,iR];simp only;rw[gt,g,iR,gt,Std.Legacy.Range.forIn_eq_forIn_range',X_]
  .rfl
  .intro i d;have d:i<32:=(by have:=List.mem_range'.1 d;obtain⟨m,e,h2⟩:=this;simp[Std.Legacy.Range.size]at e;have h2:i=0+1*m:=h2;omega);obtain⟨j,b⟩:∃j,l[i]?=J j:=⟨_,aP M⟩;rw[jS,gt,XH b,iR,gt,XH b,iR,gt,agu 9998,iR,beq_self_eq_true];rfl
 unfold Op.equal Op.maxDepth;rw[this];rfl
def LE:List aR:=LD++[16,18,22,107,47]
noncomputable def Iw:aR->Option (List U->Heap->Option (U × Heap)):=mb SD LE (λ_=>0) ul
noncomputable abbrev SE:=whole aa Gt Iw
def Sl:mo Iw LE:=λd b=>⟨uq SD d,by unfold Iw mb;rw[av (by simpa using b)];rfl⟩
def Jf{x y}{l}(g:IL x l)(i:IL y l)(f:F l<=1000000):∀h,SE.call 22 [x,y] h=J (.ret (.v (.bool V)),h):=by obtain⟨b,h2⟩:=g.hold;obtain⟨d,e⟩:=i.hold;obtain⟨_,_,j,rfl,rfl⟩:=arp ⟨[],[],0,[]⟩ b d f;exact EA (L:=LE) (B:=[al x,al y]) O O (by simp[aA,h2,e]) j O rfl
def Pt{x y}{l}(g:IL x l)(i:IL y l)(f:F l<=1000000):∀h,SE.call 107 [x,y] h=J (.ret (.v (.bool V)),h):=by obtain⟨b,h2⟩:=g.hold;obtain⟨d,e⟩:=i.hold;obtain⟨_,_,j,rfl,rfl⟩:=arn ⟨[],[],0,[]⟩ b d f;exact EA (L:=LE) (B:=[al x,al y]) O O (by simp[aA,h2,e]) j O rfl
def aru{x y}{l}(g:PL x l)(i:PL y l)(f:F l<=1000000):∀h,SE.call 47 [x,y] h=J (.ret (.v (.bool V)),h):=by obtain⟨b,h2⟩:=g.fk;obtain⟨d,e⟩:=i.fk;obtain⟨_,_,j,rfl,rfl⟩:=art ⟨[],[],0,[]⟩ b d f;exact EA (L:=LE) (B:=[al x,al y]) O O (by simp[aA,h2,e]) j O rfl
def IB:Tryz.f106.results.toList=[.tmp 4]:=by kernel_rfl
def anV:Tryz.f45.results.toList=[.tmp 4]:=by kernel_rfl
def anW:Tryz.f46.results.toList=[.tmp 4]:=by kernel_rfl
def IG:Tryz.f13.results.toList=[.tmp 4]:=by kernel_rfl
def arm(h:Heap){z1 v S k:U}{rows:List (List Int)}{ac:List Int}(hX:RL z1 rows)(q:IL v ac)(Me:RL S rows)(g:IL k ac)(E:F rows<=1000000)(ho:F ac<=1000000)(A:∀r∈rows,F r<=1000000):
 ∃r h',SE.call 106 [.agg [z1,v],.agg [S,k]] h=J (r,h')/\r=.ret (.v (.bool V))/\Ext h h':=by
 have cY:=Jf q g ho;have X:=q.bF;have Y:=g.bF;obtain⟨R,u,e,rfl,hs,fh,B⟩:=hX;obtain⟨s,n,b,rfl,j,L,m⟩:=Me;have kr:=ae.mk (λd a a2 r (h1:e[d]?=J a) (h2:b[d]?=J a2) (C:rows[d]?=J r)=>Jf (B d a r h1 C) (m d a2 r h2 C) (A r (List.mem_of_getElem? C)));have ks:=ae.mk (aj hs j);have b1:(U.agg [.list R u (e.map λa=>[a]),v]).bF=J [.list R u (e.map λa=>[a]),v]:=by obtain⟨_,_,rfl,-⟩:=q;rfl
 have b2:(U.agg [.list s n (b.map λa=>[a]),k]).bF=J [.list s n (b.map λa=>[a]),k]:=by obtain⟨_,_,rfl,-⟩:=g;rfl
 clear hs j B m A q g X Y;have u23:=cU;have u22:=gy;have z23:=hw;have z3:=eX;have eH:F (e.map λa=>[a])=F rows:=by rw[br];exact fh
 have vo:F (b.map λa=>[a])=F rows:=by rw[br];exact L
 obtain⟨H,p⟩:∃H,(h.push [.list R u (e.map λa=>[a]),v]).push [.list s n (b.map λa=>[a]),k]=H:=⟨_,O⟩;have N:H.boxes[h.boxes.length]?=J [.list R u (e.map λa=>[a]),v]:=by rw[<-p];exact aN (aK _ _)
 have t:H.boxes[(h.push [.list R u (e.map λa=>[a]),v]).boxes.length]?=J [.list s n (b.map λa=>[a]),k]:=by rw[<-p];exact aK _ _
 have n1:=bE h [.list R u (e.map λa=>[a]),v];rw[n1]at t;have l0:=ox N;have l1:=xv N;have m0:=ox t;have m1:=xv t;have f0:=λT=>de (b:=T);have f1:=λT=>dW (b:=T);have kx:ae (Ext h H):=⟨by rw[<-p];exact(Ext.push _ _).trans (.push _ _)⟩;clear N t;refine bL O Tryz.func106 O ?_;refine cK @IB @bg @p ?_;refine bC.gen λo i y eu dn=>?_;have f2:o.get 2=.ptr (.box (F h.boxes)) 0:=by rw[i];exact gS
 have f3:o.get 3=.ptr (.box (F h.boxes+1)) 0:=by rw[i];simp only[gW,reduceIte,aH,aC,n1]
 have f5:o.get 5=.v (.int .i64 (0:Nat)):=by rw[i];exact gR
 have fd:o.defers=[]:=by rw[y];exact gS
 clear i y eu dn;refine b_ (λz2 Z K=>∃d:Nat,d<=F rows/\z2=F rows-d/\Z.get 2=.ptr (.box (F h.boxes)) 0/\Z.get 3=.ptr (.box (F h.boxes+1)) 0/\Z.get 5=.v (.int .i64 (d:Nat))/\Z.defers=[]/\K=H) ?_ (F rows) _ _ ?_;rotate_left 1
 .exact⟨0,bY _,O,f2,f3,f5,fd,O⟩
 clear f2 f3 f5 fd;rintro z2 Z K ⟨d,hi,rfl,g2,g3,g5,hd,rfl⟩;by_cases f:d<F rows
 .have ev:u=1:=ks.out.1 (by intro z0;rw[z0]at f;simp at f);have j:n=1:=ks.out.2 (by intro z0;rw[z0]at f;simp at f);subst ev;subst j;obtain⟨r,E⟩:∃r,rows[d]?=J r:=⟨_,aP f⟩;obtain⟨a,D⟩:∃a,e[d]?=J a:=⟨_,aP M⟩;obtain⟨a2,l⟩:∃a,b[d]?=J a:=⟨_,aP M⟩;have ld:=iX (H:=K) (s:=1) D;have ld2:=iX (H:=K) (s:=1) l;have c22:=kr.out d a a2 r D l E;have fO:(d:Int)<(F rows:Int):=by omega
  clear D l E;refine bG @IB @aU ?_;refine du Sl bD ?_
  repeat' (first|simp(maxSteps:=9999999) (disch:=first|exact dZ|fail) only[gW,reduceIte,aH,aC,IB,aU, *]|refine dX ?_ ?_<;>(intro _;try omega))
  all_goals exact⟨F rows-(d+1),by omega,d+1,by omega,O,by simp⟩
 .have:d=F rows:=by omega
  subst this
  repeat' (first|simp(maxSteps:=9999999) (disch:=first|exact dZ|fail) only[gW,reduceIte,aH,aC,IB, *]|refine dX ?_ ?_<;>(intro _;try omega))
  all_goals exact⟨_,_,O,O,kx.out⟩
def Wp{H}{b}{d}{p r n}(e:F d.tx=32)(f:H.boxes[b]?=J (bj d p r n)):aD aa Gt H 29 (.ptr (.box b) 9)=J (.agg (d.tx.map fJ)):=by rw[fR bD (by kernel_rfl:cC aa 29=J 32) f (by unfold bj;rw[ck,br,e];exact aV _)];show J (U.agg (List.take 32 (d.tx.map fJ)))=_;rw[ga (by rw[br,e];exact aV _)]
def arq(h:Heap)(ep:Int){o p C e f d:U}{rows:List (List Int)}{ac b:List Int}(v:RL o rows)(y:IL p ac)(u:IL C b)(i:RL e rows)(j:IL f ac)(g:IL d b)(N:F rows<=1000000)(L:F ac<=1000000)(s:∀r∈rows,F r<=1000000)(A:F b<=1000000):
 ∃r h',SE.call 45 [.agg (aM ep o p C),.agg (aM ep e f d)] h=J (r,h')/\r=.ret (.v (.bool V))/\Ext h h':=by
 have X:=nC (ep:=ep) v y u;have Y:=nC (ep:=ep) i j g;obtain⟨H,l⟩:∃H,(h.push (aM ep o p C)).push (aM ep e f d)=H:=⟨_,O⟩;have m:H.boxes[h.boxes.length]?=J (aM ep o p C):=by rw[<-l];exact aN (aK _ _)
 have k:H.boxes[(h.push (aM ep o p C)).boxes.length]?=J (aM ep e f d):=by rw[<-l];exact aK _ _
 have S:=bE h (aM ep o p C);rw[S]at k;obtain⟨_,t,E,rfl,n⟩:=arm H v y i j N L s;have T:=Jf u g A;have B:=n.box _ _ m;have D:=n.box _ _ k;have Z:aD aa Gt H 3 (.ptr (.box (F h.boxes)) 0)=J (I ep):=by rw[fm dY m];rfl
 have m0:aD aa Gt H 3 (.ptr (.box (F h.boxes+1)) 0)=J (I ep):=by rw[fm dY k];rfl
 have l1:aD aa Gt H 25 (.ptr (.box (F h.boxes)) 1)=J (.agg [o,p]):=by rw[fR bD (by kernel_rfl:cC aa 25=J 2) m (by decide:1+2<=4)];rfl
 have m1:aD aa Gt H 25 (.ptr (.box (F h.boxes+1)) 1)=J (.agg [e,f]):=by rw[fR bD (by kernel_rfl:cC aa 25=J 2) k (by decide:1+2<=4)];rfl
 have l2:aD aa Gt t 23 (.ptr (.box (F h.boxes)) 3)=J C:=by rw[fm mW B];rfl
 have m2:aD aa Gt t 23 (.ptr (.box (F h.boxes+1)) 3)=J d:=by rw[fm mW D];rfl
 have f0:=λq=>qR (b:=q);have f1:=λq=>gX (b:=q);have f2:=λq=>iU (b:=q);have R:ae (Ext h t):=⟨(by rw[<-l];exact(Ext.push _ _).trans (.push _ _):Ext h H).trans n⟩;clear m k B D n v y u i j g s;generalize aM ep o p C=K1 at *
 generalize aM ep e f d=K2 at *
 unfold I at *
 refine bL O Tryz.func45 O ?_
 repeat' (first|simp(maxSteps:=9999999) (disch:=first|exact dZ|fail) only[gW,reduceIte,aH,aC,anV,bg,l, *]|refine dX ?_ ?_<;>(intro _;try omega))
 all_goals exact⟨_,_,O,O,R.out⟩
def ars(h:Heap)(d:Dc){p r n f r2 e:U}(ok:lL d p r n)(b:lL d f r2 e)(i:F d.pa<=1000000/\F d.rv<=1000000/\F d.nd<=1000000):
 ∃l h',SE.call 46 [.agg (bj d p r n),.agg (bj d f r2 e)] h=J (l,h')/\l=.ret (.v (.bool V))/\Ext h h':=by
 have t:=ok.cells;have u:=b.cells;obtain⟨H,g⟩:∃H,(h.push (bj d p r n)).push (bj d f r2 e)=H:=⟨_,O⟩;have k:H.boxes[h.boxes.length]?=J (bj d p r n):=by rw[<-g];exact aN (aK _ _)
 have j:H.boxes[(h.push (bj d p r n)).boxes.length]?=J (bj d f r2 e):=by rw[<-g];exact aK _ _
 have o:=bE h (bj d p r n);rw[o]at j;have v:=Pt ok.p b.p i.1;have y:=Pt ok.r b.r i.2.1;have A:=Pt ok.n b.n i.2.2;have E:=q_ k;have L:=q_ j;have C:=Wp ok.t k;have D:=Wp ok.t j;have B:=λx q=>ags (x:=x) (y:=q) ok.t;have N:=AO;have m:ae (Ext h H):=⟨by rw[<-g];exact(Ext.push _ _).trans (.push _ _)⟩;clear k j ok b i;generalize bj d p r n=K1 at *
 generalize bj d f r2 e=K2 at *
 generalize d.tx.map fJ=s at *
 unfold I at *
 refine bL O Tryz.func46 O ?_
 repeat' (first|simp(maxSteps:=9999999) (disch:=first|exact dZ|fail) only[gW,reduceIte,aH,aC,anW,bg,g,List.append_eq,ey,dO, *]|refine dX ?_ ?_<;>(intro _;try omega))
 all_goals exact⟨_,_,O,O,m.out⟩
structure wE(c:Ce):Prop where
 rows:c.rows.length<=1000000
 ac:c.ac.length<=1000000
 Lp:∀r∈c.rows,r.length<=1000000
 ai:c.ai.length<=1000000
 doc:c.doc.pa.length<=1000000/\c.doc.rv.length<=1000000/\c.doc.nd.length<=1000000
 who:c.who.length<=1000000
 bI:c.bI.length<=1000000
 parts:c.parts.length<=1000000
def Zc:wE c0:=⟨bY _,bY _,λd b=>(by cases b),bY _,⟨bY _,bY _,bY _⟩,bY _,bY _,bY _⟩
def aro(h:Heap)(c:Ce)(a a2:CA)(ok:cA c a)(b:cA c a2)(d:wE c):
 ∃r h',SE.call 13 [.agg (aq c a),.agg (aq c a2)] h=J (r,h')/\r=.ret (.v (.bool V))/\Ext h h':=by
 have b1:=ok.cells;have b2:=b.cells;obtain⟨H,j⟩:∃H,(h.push (aq c a)).push (aq c a2)=H:=⟨_,O⟩;have p:H.boxes[h.boxes.length]?=J (aq c a):=by rw[<-j];exact aN (aK _ _)
 have k:H.boxes[(h.push (aq c a)).boxes.length]?=J (aq c a2):=by rw[<-j];exact aK _ _
 have T:=bE h (aq c a);rw[T]at k;obtain⟨_,H2,c45,rfl,l⟩:=arq H c.ep ok.x ok.y ok.cm b.x b.y b.cm d.rows d.ac d.Lp d.ai;obtain⟨_,v,c46,rfl,x3⟩:=ars H2 c.doc ok.d b.d d.doc;have c22:=Jf ok.w b.w d.who;have c47:=aru ok.pa b.pa d.bI;have q:=l.box _ _ p;have t:=l.box _ _ k;have X:=x3.box _ _ q;have Y:=x3.box _ _ t;obtain⟨l0,-⟩:=gL ok p;obtain⟨m0,-⟩:=gL b k;obtain⟨-,l1,-⟩:=gL ok q;obtain⟨-,m1,-⟩:=gL b t;obtain⟨-,-,l2,l3,l4,-⟩:=gL ok X;obtain⟨-,-,m2,m3,m4,-⟩:=gL b Y;obtain⟨kz,sz,ez,R⟩:=ok.z;obtain⟨kz2,Z,m,o⟩:=b.z;have S:=ae.mk (aj R o);rw[ez]at l4;rw[m]at m4;have il:=uH c.parts;have u33:=mV;have z48:=xH;have z3:=py;have kx:ae (Ext h v):=⟨((by rw[<-j];exact(Ext.push _ _).trans (.push _ _):Ext h H).trans l).trans x3⟩;have Hu:=d.parts;clear p k q t X Y l x3 ok b d ez m R o;generalize aq c a=K1 at *
 generalize aq c a2=K2 at *
 refine bL O Tryz.func13 O ?_;refine cK @IG @bg @j ?_;refine bC.gen λi f n B C=>?_;have f2:i.get 2=.ptr (.box (F h.boxes)) 0:=by rw[f];exact gS
 have f3:i.get 3=.ptr (.box (F h.boxes+1)) 0:=by rw[f];simp only[gW,reduceIte,aH,aC,T]
 have f5:i.get 5=.v (.int .i64 (0:Nat)):=by rw[f];exact gR
 have A:i.defers=[]:=by rw[n];exact gS
 clear f n B C;refine b_ (λz1 y K=>∃g:Nat,g<=F c.parts/\z1=F c.parts-g/\y.get 2=.ptr (.box (F h.boxes)) 0/\y.get 3=.ptr (.box (F h.boxes+1)) 0/\y.get 5=.v (.int .i64 (g:Nat))/\y.defers=[]/\K=v) ?_ (F c.parts) _ _ ?_;rotate_left 1
 .exact⟨0,bY _,O,f2,f3,f5,A,O⟩
 clear f2 f3 f5 A;rintro z1 y K ⟨g,hi,rfl,g2,g3,g5,hd,rfl⟩;by_cases e:g<F c.parts
 .have D:sz=2:=S.out.1 (by intro z0;rw[z0]at e;simp at e);have L:Z=2:=S.out.2 (by intro z0;rw[z0]at e;simp at e);subst D;subst L;obtain⟨u,N⟩:∃u,c.parts[g]?=J u:=⟨_,aP e⟩;have ld:=zE (H:=K) (s:=2) N;have ne:=λx z=>alH (x:=x) (y:=z) u u;rw[bQ O]at ne;have fO:(g:Int)<(F c.parts:Int):=by omega
  clear N;generalize aZ u=z2 at *
  refine bG @IG @aU ?_;refine du Sl bD ?_
  repeat' (first|simp(maxSteps:=9999999) (disch:=first|exact dZ|fail) only[gW,reduceIte,aH,aC,IG,aU, *]|refine dX ?_ ?_<;>(intro _;try omega))
  all_goals exact⟨F c.parts-(g+1),by omega,g+1,by omega,O,by simp⟩
 .have:g=F c.parts:=by omega
  subst this
  repeat' (first|simp(maxSteps:=9999999) (disch:=first|exact dZ|fail) only[gW,reduceIte,aH,aC,IG, *]|refine dX ?_ ?_<;>(intro _;try omega))
  all_goals exact⟨_,_,O,O,kx.out⟩
end Go.Proofs.YtcbhpkjbiehcpaaGreatDoor
end
section
namespace Go.AE
open Go.RowKit (Below)
mutual
def nk:U->Bool
 | .v _=>V
 | .agg b=>BO b
 | .tuple b=>BO b
 | .list .nil _ []=>V
 |_=>ah
def BO:List U->Bool
 | []=>V
 |x::b=>nk x&&BO b
end
def tC(z:Nat)(h:Heap):U->Bool
 | .arr e b len _=>match h.boxes[e]? with
  |some d=>decide (b+len*z<=F d)&&decide (0<z)&&BO ((d.drop b).take (len*z))|none=>ah
 |x=>nk x
def CX(z:Nat)(h:Heap):U->U
 | .arr e b len _=>match h.boxes[e]? with
  |some d=>.list .held z (nI z d b len)
  |none=>.bad
 |x=>x
section
variable {P:bk} {G:Nat->Option (List U)} {ok:aR->Nat->Code->Bool} {w0 w w':World} {K K1 K2:aW} {h h2:Heap} {z:Nat}
mutual
def aQ.plain:∀{x:U} {c:aG},aQ K1 x c->nk x=V->aQ K2 x c
 |_,_,.bad c,_=>.bad c
 |_,_,.v x l,_=>.v x l
 |_,_,.nil e,_=>.nil e
 |_,_,.fZ e a,_=>.fZ e a
 |_,_,.list R e n i b T f cells D k d q s o,h=>by
  cases R with|nil=>exact s.2.elim|tight=>simp[nk]at h|free N=>simp[nk]at h|held=>simp[nk]at h
 |_,_,.arr v i b len f t m p r u E k,h=>by simp[nk]at h
 |_,_,.agg j g d,h=>.agg _ g (aI.plain d (by simpa only[nk] using h))
 |_,_,.tuple j g d,h=>.tuple _ g (aI.plain d (by simpa only[nk] using h))
 |_,_,.box v i b p,h=>by simp[nk]at h
 |_,_,.dA i b,h=>.dA i b
 |_,_,.elem e n N b i X Y cells k d q C L o,h=>by simp[nk]at h
 |_,_,.func y first f A j B h2,h=>by simp[nk]at h
 |_,_,.yield S i r,h=>by simp[nk]at h
 |_,_,.iface Z x c l,h=>by simp[nk]at h
def aI.plain:∀{xs:List U} {cs:List aG},aI K1 xs cs->BO xs=V->aI K2 xs cs
 |_,_,.nil,_=>.nil
 |_,_,.cons x c xs cs d b,h=>by simp only[BO,bm]at h;exact .cons _ c _ cs (aQ.plain d h.1) (aI.plain b h.2)
end
def aQ.F6(Z:bK K1 G ok w h2 w')(n:∀g j c,K1.base<=g->w'.cell? ⟨g,j,ag⟩=J c->K2.ic g j=J c){x:U}{c:aG}(e:aQ K1 x c)(h:tC z h2 x=V):aQ K2 (CX z h2 x) c:=by
 cases e with
 |arr E g d len i b l t N pH ho p=>
  simp only[tC,CX]at h ⊢;cases m:h2.boxes[E]? with
  |none=>simp_all|some f=>
   rw[m]at h;simp only[bm,decide_eq_true_eq]at h ⊢;obtain⟨⟨B,hz⟩,L⟩:=h;obtain⟨X,q2,q3,cells,z2,Y,D⟩:=Z.box E g f t m;have R:=D.le;by_cases h0:i=0
   .have:len=0:=(by omega);subst this;exact .list .held z [] g b 0 l [] O (λ_ h=>by cases h) .nil (λ_ _ h=>by grind) ⟨bY _,aX⟩ O
   .have o:b=d:=(by simp_all);subst o;have e:aI K1 ((f.drop b).take (len*z)) (((cells.toList.take (F f)).drop b).take (len*z)):=(D.1.drop b).take (len*z);refine .list .held z _ g b len l (((cells.toList.take (F f)).drop b).take (len*z)) (by rw[OZ]) (O0 B) ?_ (λj c y=>?_) ⟨M,aX⟩ ?_
    .rw[vY];exact aI.plain e L
    .refine n _ _ _ X ?_;have A:j<len*z:=(by have:=(aT.1 y).1;rw[cR]at this;omega);rw[mM,av A,List.getElem?_drop,mM,av M]at y;rw[cell_of Y];simp_all
    .rw[vY]
     grind
 |bad c=>exact .bad c|v _ C=>exact .v _ C|nil k=>exact .nil k|fZ k a=>exact .fZ k a|list z0 k r g d z1 i cells S p e u T s=>exact aQ.plain (.list z0 k r g d z1 i cells S p e u T s) h|agg f q e=>exact aQ.plain (.agg f q e) h|tuple f q e=>exact aQ.plain (.tuple f q e) h|box E g d t=>simp[tC,nk]at h|dA g d=>exact .dA g d|elem k r z3 d g z5 z6 cells p e u hi hp s=>simp[tC,nk]at h|func fn first i fs f h1 h2=>simp[tC,nk]at h
 |yield z4 g N=>simp[tC,nk]at h|iface z7 x c C=>simp[tC,nk]at h
def aI.F6(d:bK K1 G ok w h2 w')(b:∀g j c,K1.base<=g->w'.cell? ⟨g,j,ag⟩=J c->K2.ic g j=J c):∀{xs:List U} {cs:List aG},aI K1 xs cs->xs.all (tC z h2)=V->aI K2 (xs.map (CX z h2)) cs
 |_,_,.nil,_=>.nil
 |_,_,.cons x c xs cs f e,h=>by rw[List.all_cons,bm]at h;exact .cons _ c _ cs (aQ.F6 d b f h.1) (aI.F6 d b e h.2)
def Dl(z:Nat)(R:Rec)(g:aR)(args:List U)(h:Heap):Option (U × Heap):=
 if aA 0 0 0 (iD z h args)=V then
  match R.call g (iD z h args) ⟨[],[],0,[]⟩ with
  |some (.ret (.tuple b),h2)=>if b.all (tC z h2)=V then J (.tuple (b.map (CX z h2)),h) else ag
  |_=>ag
 else ag
def ag1{aJ:aR->Option (List U->Heap->Option (U × Heap))}(E:Prog P)(A:∀g cs,G g=J cs->aA 0 0 0 cs=V)(d:∀u g p,aJ g=J p->kJ P G u g p){g:aR}(k:∃fn,P.funcs[g]?=J fn/\fn.body.isSome=V)(u:World):
 kJ P G u g (Dl z (whole P G aJ) g):=by
 refine⟨k,λv h x X b K w f L e cs=>?_⟩;unfold Dl at b;split at b
 .rename_i D;split at b
  .rename_i Y h2 i;split at b
   .rename_i B;injection b with b;injection b with r s;subst r;subst s;obtain⟨-,j⟩:=(Fy E (d w)).call g _ _ _ _ i;have N:=bK.still e A;obtain⟨K1,w',y,le,t,o,l,T,q,n⟩:=j (K.still w) w f (aI.kZ e L D) N cs;have C:Below w.heap.size w w':=(by have:=t.fL;rwa [le.base]at this);refine⟨.returned T,w',y,⟨T,_,O,aW.Et e,?_,bK.j' e C⟩,o,l,n⟩;cases q with|tuple _ R S=>refine .tuple _ R (aI.F6 (K2:=K.j' w.heap.size w') t (λg Z c m i=>?_) S B);have S:w.heap.size<=g:=(by rw[le.base]at m;exact m);simp only[aW.j',aL (M:¬g<w.heap.size)];exact i
   grind
  grind
 grind
def ag0{R:Rec}{L:List aR}{Z:aR->Nat}{q:aR->Option (List U->Heap->Option (U × Heap))}{g:aR}{R0:Rec}{args B d zs:List U}{h b:Heap}(n:L.contains g=ah)(m:Z g=0)(k:q g=J (Dl z R0 g))(f:iD z h args=B)(j:aA 0 0 0 B=V)(i:R0.call g B ⟨[],[],0,[]⟩=J (.ret (.tuple d),b))(l:d.all (tC z b)=V)(e:d.map (CX z b)=zs):
 (whole P G (mb R L Z q)).call g args h=J (.ret (.tuple zs),h):=by
 subst f;subst e;rw[rD];unfold k_ mb;rw[aL (by simp_all),m];simp only[k,Dl,av j,i,av l];rfl
end
end Go.AE
end
section
namespace Go.Proofs.YtcbhpkjbiehcpaaGreatDoor
open Go.AE Go.NT
def LF:List aR:=(LE.filter λb=> !(hy b 60||hy b 61))++[13]
noncomputable def qF(g:aR):Option (List U->Heap->Option (U × Heap)):=if hy g 60||hy g 61 then J (Dl 1 SE g) else ag
noncomputable def XW:aR->Option (List U->Heap->Option (U × Heap)):=mb SE LF (λ_=>0) qF
noncomputable abbrev SF:=whole aa Gt XW
section
variable {P:bk} {z:Nat} {h:Heap}
mutual
def Dm:∀x:U,au 0 0 0 x=V->gY z h x=al x
 | .list k i e,b=>by simp only[au,bm]at b;rw[gY,al,TR e b.2]
 | .arr j g len f,b=>by simp[au]at b
 | .tuple d,b=>by rw[gY,al,GG d (by simpa only[au] using b)]
 | .agg d,b=>by rw[gY,al,GG d (by simpa only[au] using b)]
 | .iface l x,b=>by rw[gY,al,Dm x (by simpa only[au] using b)]
 | .v _,_=>rfl
 | .ptr _ _,_=>rfl
 | .elem _ _ _ _,_=>rfl
 | .func _ _ _,_=>rfl
 | .yield _,_=>rfl
 | .bad,_=>rfl
def GG:∀xs:List U,aA 0 0 0 xs=V->iD z h xs=a_ xs
 | [],_=>rfl
 |x::xs,b=>by simp only[aA,bm]at b;rw[iD,a_,Dm x b.1,GG xs b.2]
def TR:∀xs:List (List U),fg 0 0 0 xs=V->nU z h xs=dm xs
 | [],_=>rfl
 |x::xs,b=>by simp only[fg,bm]at b;rw[nU,dm,GG x b.1,TR xs b.2]
end
end
def ag2{h}{b n}{l}(e:h.boxes[b]?=J (l.map I))(f:F l=n):gY 1 h (.arr b 0 n n)=.list .held 1 (ints l):=by
 subst f;rw[gY,e];simp only;rw[av ⟨by rw[br];omega,by omega⟩];have:nI 1 (l.map I) 0 (F l)=ints l:=by
  have:=IU (z:=1) (ints l) [] (by intro m d;unfold ints at d;obtain⟨k,-,rfl⟩:=jg.1 d;rfl);rw[dO,cG]at this;have i:(ints l).flatten=l.map I:=by rw[<-LP];induction l.map I with
   |nil=>rfl|cons x j g=>rw[eI,jP,g];rfl
  rw[i]at this;exact this
 rw[this,rT]
def Ln{g}{a}{y}(c:bN SB g a y)(b:LC.contains g=V)(h2:LD.contains g=V)(d:LE.contains g=V):bN SE g a y:=((c.mix (L:=LC) b).mix (L:=LD) h2).mix (L:=LE) d
def ym{g}{a}{y}(c:bN SE g a y)(b:LF.contains g=V):bN SF g a y:=c.mix (L:=LF) b
section
variable {c:Ce} {a:CA}
def afp(ok:cA c a)(e:dG a){T:U}{text:List UInt8}(q:BL T text)(o:al T=T){z:List Int}(j:F c.ai<=1000000)(k:F c.bI<=1000000)(l:F text<=1000000)(m:F z<=1000000){h:Heap}{b:Nat}(p:h.boxes[b]?=J (z.map I)):
 SF.call 60 [.agg (aM c.ep a.X a.Y a.C),T,a.Pa,.arr b 0 (F z) (F z)] h=J (.ret (.tuple [.agg [I (iT c.rows c.ac c.ep c.ai text c.bI z).1.1,I (iT c.rows c.ac c.ep c.ai text c.bI z).1.2],.v (.bool (iT c.rows c.ac c.ep c.ai text c.bI z).2.1),I (iT c.rows c.ac c.ep c.ai text c.bI z).2.2]),h):=by
 have r:IL (.list .held 1 (ints z)) z:=⟨.held,1,O,λ_=>rfl⟩;have f:=ajZ (ep:=c.ep) ok.x ok.y ok.cm q ok.pa r j k l m;rw[e.X,e.Y,e.C,e.Pa,o]at f;have ez:al (.list .held 1 (ints z))=.list .held 1 (ints z):=by simp only[al,rT];rfl
 rw[ez]at f;have f:bN SE 60 _ _:=Ln (nS f O O) O O O;refine ag0 (z:=1) (R0:=SE) (L:=LF) (q:=qF) O O O ?_ f.fit (f.call _) O O;have d:=f.fit;simp only[aA,bm]at d;simp only[iD];rw[Dm _ d.1,Dm _ d.2.1,Dm _ d.2.2.1,ag2 p O];have:=f.held;simp only[a_]at this;injection this with n g;injection g with g i;injection i with i s;rw[n,g,i]
end
def EO:Tryz.f20.results.toList=[.cell 2 52,.tmp 3,.tmp 4,.tmp 5]:=by kernel_rfl
section
variable {c:Ce} {a:CA}
def SN(ok:cA c a)(d:dG a)(b:c.Fit):∀h,SF.call 14 [.agg (aq c a)] h=J (.ret (I (dD c)),h):=(ym ((V_ ok d b).mix (L:=LE) (Z:=λ_=>0) (q:=ul) O) O).call
def atz(ok:cA c a)(b:dG a)(d:c.Fit):∃T,(iB c.doc=V->BL T (cB (ja c.doc)))/\al T=T/\∀h,SF.call 28 [.agg (bj c.doc a.p a.r a.n)] h=J (.ret (.tuple [T,I (if iB c.doc=V then 0 else 170)]),h):=by obtain⟨T,e,h2,f⟩:=NJ ok.d d.2.2.2.1;rw[b.p,b.r,b.n]at f;exact⟨T,e,h2,(ym (Ln f O O O) O).call⟩
def af0(h:Heap)(ok:cA c a)(k:dG a)(j:c.Fit)(f:dD c≠0∨F c.parts<F c.who):∃r h',SF.call 20 [.agg (aq c a)] h=J (r,h')/\r=.ret (.tuple [.agg [I 0,I 0],.list .nil 0 [],.v (.bool ah),I (dD c)]):=by
 have E:=ok.cells;have t:=SN ok k j;have z:=JG;obtain⟨H,d⟩:∃H,(h.push (aq c a)).push [I 0,I 0]=H:=⟨_,O⟩;have m:H.boxes[h.boxes.length]?=J (aq c a):=by rw[<-d];exact aN (aK _ _)
 have b:H.boxes[(h.push (aq c a)).boxes.length]?=J [I 0,I 0]:=by rw[<-d];exact aK _ _
 have p:=bE h (aq c a);rw[p]at b;obtain⟨-,-,n,-,o,R⟩:=gL ok m;have S:=zD b;have s:=Cl (u:=0) (v:=0) b;rw[lH b]at s;obtain⟨L,T,i,-⟩:=ok.w;obtain⟨N,X,ez,-⟩:=ok.z;rw[i]at n;rw[ez]at o;have xq:=cG c.who;have A:=uH c.parts;have B:=cU;have C:=mV;have Z:=py;have e:decide ((F c.parts:Int)<(F c.who:Int))=decide (F c.parts<F c.who):=by by_cases q:F c.parts<F c.who<;>simp[q]
 clear m b ok k j i ez;generalize aq c a=Y at *
 generalize dD c=y at *
 unfold I at *
 refine bL O abF O ?_;by_cases g:y=0
 .have l:F c.parts<F c.who:=by rcases f with q|q;exact absurd g q;exact q
  rw[bQ l]at e;subst g;clear f
  repeat' (first|simp(maxSteps:=9999999) (disch:=first|exact dZ|fail) only[gW,reduceIte,aH,aC,EO,bg,d, *]|refine dX ?_ ?_<;>(intro _;try omega))
  all_goals exact⟨_,_,O,O⟩
 .have d1:decide (y=0)=ah:=b7 g;clear f e
  repeat' (first|simp(maxSteps:=9999999) (disch:=first|exact dZ|fail) only[gW,reduceIte,aH,aC,EO,bg,d, *]|refine dX ?_ ?_<;>(intro _;try omega))
  all_goals exact⟨_,_,O,O⟩
def af1(h:Heap)(ok:cA c a)(A:dG a)(g:c.Fit)(hc:dD c=0)(hl:¬F c.parts<F c.who)(Z:F (cB (ja c.doc))<=1000000)(y:iB c.doc=V)
 (X:(iT c.rows c.ac c.ep c.ai (cB (ja c.doc)) c.bI (c.parts.map mA)).2.1=V):∃r h',SF.call 20 [.agg (aq c a)] h=J (r,h')/\r=.ret (.tuple [.agg [I (iT c.rows c.ac c.ep c.ai (cB (ja c.doc)) c.bI (c.parts.map mA)).1.1,I (iT c.rows c.ac c.ep c.ai (cB (ja c.doc)) c.bI (c.parts.map mA)).1.2],.list .nil 0 [],.v (.bool V),I 0]):=by
 have bx:=ok.cells;have c14:=SN ok A g;rw[hc]at c14;obtain⟨z1,j,R,Sf⟩:=atz ok A g;have j:=j y;rw[av y]at Sf;have z:=JG;have zq:=aac;obtain⟨H,t⟩:∃H,(h.push (aq c a)).push [I 0,I 0]=H:=⟨_,O⟩;have C:H.boxes[h.boxes.length]?=J (aq c a):=by rw[<-t];exact aN (aK _ _)
 have q1:H.boxes[(h.push (aq c a)).boxes.length]?=J [I 0,I 0]:=by rw[<-t];exact aK _ _
 have n1:=bE h (aq c a);rw[n1]at q1;have nH:F H.boxes=F h.boxes+2:=by rw[<-t,bE,bE]
 obtain⟨-,l1,l2,-,l4,l0⟩:=gL ok C;have mk:=vK H (F c.parts) g.2.2.2.2.2 .i64 .i64;obtain⟨-,-,-,-,m4,-⟩:=gL ok (aN (cs:=bB (F c.parts) (I 0)) C);have kld:ae (∀K:Heap,K.boxes[h.boxes.length]?=J (aq c a)->aD aa Gt K 27 (.ptr (.box (F h.boxes)) 0)=J (.agg (aM c.ep a.X a.Y a.C))/\aD aa Gt K 32 (.ptr (.box (F h.boxes)) 46)=J a.Pa):=⟨λK hK=>by obtain⟨x1,-,-,x2,-,-⟩:=gL ok hK;exact⟨x1,x2⟩⟩;have kcb:ae (∀K:Heap,K.boxes[F h.boxes+2]?=J ((c.parts.map mA).map I)->SF.call 60 [.agg (aM c.ep a.X a.Y a.C),z1,a.Pa,.arr (F h.boxes+2) 0 (F c.parts) (F c.parts)] K=J (.ret (.tuple [.agg [I (iT c.rows c.ac c.ep c.ai (cB (ja c.doc)) c.bI (c.parts.map mA)).1.1,I (iT c.rows c.ac c.ep c.ai (cB (ja c.doc)) c.bI (c.parts.map mA)).1.2],.v (.bool (iT c.rows c.ac c.ep c.ai (cB (ja c.doc)) c.bI (c.parts.map mA)).2.1),I (iT c.rows c.ac c.ep c.ai (cB (ja c.doc)) c.bI (c.parts.map mA)).2.2]),K)):=⟨λK hK=>by have:=afp ok A j R (z:=c.parts.map mA) g.2.1 g.2.2.2.2.1 Z (by rw[br];exact g.2.2.2.2.2) hK;rw[br]at this;exact this⟩;obtain⟨kw,sw,ew,-⟩:=ok.w;obtain⟨kz,sz,ez,Y⟩:=ok.z;rw[ew]at l2;rw[ez]at l4 m4;have xq:=cG c.who;have il2:=uH c.parts;have u23:=cU;have u33:=mV;have z48:=xH;have z7:=py;have f48:=Dg;have di:decide ((F c.parts:Int)<(F c.who:Int))=ah:=b7 M;have ks:=ae.mk Y;have Hu:=g.2.2.2.2.2;have k0:ae ((H.push (bB (F c.parts) (I 0))).boxes[h.boxes.length]?=J (aq c a)/\(H.push (bB (F c.parts) (I 0))).boxes[F h.boxes+1]?=J [I 0,I 0]/\(H.push (bB (F c.parts) (I 0))).boxes[F h.boxes+2]?=J (((c.parts.take 0).map mA++bB (F c.parts-0) (0:Int)).map I)):=⟨⟨aN C,aN q1,by have:=aK H (bB (F c.parts) (I 0));rw[nH]at this;rw[this,cX,List.map_nil,dO,List.map_replicate,Nat.sub_zero]⟩⟩;clear C q1 ok A g ew ez hc hl Y j R Z y;generalize iT c.rows c.ac c.ep c.ai (cB (ja c.doc)) c.bI (c.parts.map mA)=z3 at *
 obtain⟨⟨L,N⟩,z4,q⟩:=z3;simp only at X kcb ⊢;subst X;generalize aq c a=z2 at *
 generalize aM c.ep a.X a.Y a.C=KY at *
 generalize bj c.doc a.p a.r a.n=DC at *
 generalize a.Pa=PA at *
 have kH:=ae.mk nH;unfold I at *
 refine bL O abF O ?_;refine cK @EO @bg @t ?_;refine bC.gen λe d T eu dn=>?_;have f1:e.get 1=.ptr (.box (F h.boxes)) 0:=by rw[d];exact gS
 have f2:e.get 2=.ptr (.box (F h.boxes+1)) 0:=by rw[d];simp only[gW,reduceIte,aH,aC,n1]
 have f3:e.get 3=.list .nil 0 []:=by rw[d];exact gS
 have f6:e.get 6=z1:=by rw[d];exact gS
 have f8:e.get 8=.arr (F h.boxes+2) 0 (F c.parts) (F c.parts):=by rw[d];simp only[gW,reduceIte,aH,aC,nH]
 have f37:e.get 37=.list kz sz (bO c.parts):=by rw[d];exact gS
 have f38:e.get 38=.v (.int .i64 (F c.parts:Nat)):=by rw[d];simp only[gW,reduceIte,aH,aC,il2]
 have f39:e.get 39=.v (.int .i64 (0:Nat)):=by rw[d];exact gR
 have fd:e.defers=[]:=by rw[T];exact gS
 clear d T eu dn;refine b_ (λz0 q K=>∃b:Nat,b<=F c.parts/\z0=F c.parts-b/\q.get 1=.ptr (.box (F h.boxes)) 0/\q.get 2=.ptr (.box (F h.boxes+1)) 0/\q.get 6=z1/\q.get 8=.arr (F h.boxes+2) 0 (F c.parts) (F c.parts)/\q.get 37=.list kz sz (bO c.parts)/\q.get 38=.v (.int .i64 (F c.parts:Nat))/\q.get 39=.v (.int .i64 (b:Nat))/\q.defers=[]/\ae (K.boxes[h.boxes.length]?=J z2/\K.boxes[F h.boxes+1]?=J [.v (.int .i64 0),.v (.int .i64 0)]/\K.boxes[F h.boxes+2]?=J (((c.parts.take b).map mA++bB (F c.parts-b) (0:Int)).map I))) ?_ (F c.parts) _ _ ?_;rotate_left 1
 .exact⟨0,bY _,O,f1,f2,f6,f8,f37,f38,f39,fd,k0⟩
 clear f1 f2 f3 f6 f8 f37 f38 f39 fd k0;rintro z0 q K ⟨b,hi,rfl,g1,g2,g6,g8,g37,g38,g39,y,p⟩;by_cases f:b<F c.parts
 .have ev:sz=2:=ks.out (by intro z5;rw[z5]at f;simp at f);subst ev;obtain⟨i,E⟩:∃i,c.parts[b]?=J i:=⟨_,aP f⟩;have ld:=zE (H:=K) (s:=2) E;have st:bV aa (K.push (aZ (0,0))) 48 (.ptr (.box (F K.boxes)) 0) (.agg (aZ i))=J (K.push (aZ i)):=ZC i;have lz:=(vG (aK K (aZ i))).2.1;have ix:dK aa 23 (.arr (F h.boxes+2) 0 (F c.parts) (F c.parts)) (.v (.int .i64 (b:Nat)))=J (.ptr (.box (F h.boxes+2)) b):=nZ f;have sk:=uJ (H:=K.push (aZ i)) (b:=F h.boxes+2) (r:=(c.parts.take b).map mA++bB (F c.parts-b) (0:Int)) (k:=b) (x:=i.2) (aN p.out.2.2) (by rw[ck,br,cR,List.length_replicate];omega);have n:((c.parts.take b).map mA++bB (F c.parts-b) (0:Int)).set b i.2=(c.parts.take (b+1)).map mA++bB (F c.parts-(b+1)) (0:Int):=by have e1:F ((c.parts.take b).map mA)=b:=(by rw[br,cR];omega);obtain⟨z0,hm⟩:∃z0,F c.parts-b=z0+1:=⟨F c.parts-b-1,by omega⟩;rw[hm,(M:F c.parts-(b+1)=z0),List.replicate_succ,List.set_append_right _ _ M,e1,qL,List.set_cons_zero,List.take_add_one,E,jQ];simp
  rw[n]at sk;obtain⟨o,l,m⟩:=p.out;have S:F h.boxes+2<F (K.push (aZ i)).boxes:=by have:=(aT.1 m).1;rw[bE];omega
  have kN:ae (((K.push (aZ i)).put (F h.boxes+2) (((c.parts.take (b+1)).map mA++bB (F c.parts-(b+1)) (0:Int)).map I)).boxes[h.boxes.length]?=J z2/\((K.push (aZ i)).put (F h.boxes+2) (((c.parts.take (b+1)).map mA++bB (F c.parts-(b+1)) (0:Int)).map I)).boxes[F h.boxes+1]?=J [.v (.int .i64 0),.v (.int .i64 0)]/\((K.push (aZ i)).put (F h.boxes+2) (((c.parts.take (b+1)).map mA++bB (F c.parts-(b+1)) (0:Int)).map I)).boxes[F h.boxes+2]?=J (((c.parts.take (b+1)).map mA++bB (F c.parts-(b+1)) (0:Int)).map I)):=⟨⟨by rw[cd M];exact aN o,by rw[cd M];exact aN l,dh S⟩⟩;have fO:(b:Int)<(F c.parts:Int):=by omega
  clear E o l m S n p;generalize Nv:i.2=yz at *
  generalize aZ i=z6 at *
  generalize Uc:aZ (0,0)=B0 at *
  unfold I at *
  repeat' (first|simp(maxSteps:=9999999) (disch:=first|exact dZ|fail) only[gW,reduceIte,aH,aC,EO,aU, *]|refine dX ?_ ?_<;>(intro _;try omega))
  all_goals exact⟨F c.parts-(b+1),by omega,b+1,by omega,O,by simp,by first|exact kN|trivial⟩
 .have:b=F c.parts:=by omega
  subst this;obtain⟨o,l,m⟩:=p.out;rw[fK,qL,List.replicate_zero,gj]at m;have cb:=kcb.out K m;obtain⟨x1,x2⟩:=kld.out K o;have s5:=Cl (u:=L) (v:=N) l;have B:(K.put (F h.boxes+1) [I L,I N]).boxes[F h.boxes+1]?=J [I L,I N]:=dh (aT.1 l).1;have l6:=zD B;have s6:=Cl (u:=L) (v:=N) B;rw[lH B]at s6;clear o l m B p;unfold I at *
  repeat' (first|simp(maxSteps:=9999999) (disch:=first|exact dZ|fail) only[gW,reduceIte,aH,aC,EO, *]|refine dX ?_ ?_<;>(intro _;try omega))
  all_goals exact⟨_,_,O,O⟩
end
def Rz:List (List Int):=[[1,1],[1,2]]
def Oz:List Int:=[1,2]
def Cz:List Int:=p8 [5,7]
def jk:Dc:=⟨3,0,0,0,0,9,[],[],[],bB 32 0⟩
def n_(k d f:Int):Pr:=⟨k,0,fj 4 d,fj 4 f⟩
def cz(l:List Pr)(z:List (Int × Int)):Ce:=⟨Rz,Oz,0,Cz,jk,[1,2],l,z⟩
def dL:Pr:=n_ 1 100 101
def df:Pr:=n_ 2 102 103
def uM:List UInt8:=cB (ja jk)
def az:Int:=645765691
def bz:Int:=686257420
def ez:Int:=223354490
def we:Int:=258281322
def zn1:NT.e_ Rz Oz 0 Cz jk [1]=440:=by decide+kernel
def zn2:NT.e_ Rz Oz 0 Cz jk [2,1]=1:=by decide+kernel
def zn3:NT.e_ Rz Oz 0 Cz d0 [1,2]=170:=by decide+kernel
def zn4:NT.e_ Rz Oz 0 Cz jk [1,2]=0:=by decide+kernel
def zc0:dD c0=440:=by decide+kernel
def zc1:dD (cz [] [])=0:=by decide+kernel
def zp0:fB (cz [] []) (1,0)=(420,[]):=by decide+kernel
def zp1:fx (cz [] []) df=(0,[df]):=by decide+kernel
def zp2:fx (cz [df] []) dL=(0,[dL,df]):=by decide+kernel
def zp3:(fx (cz [dL,df] []) (n_ 2 1 2)).1=151:=by decide+kernel
def zp4:(fx (cz [dL,df] []) (n_ 3 1 2)).1=420:=by decide+kernel
def zm1:oQ Rz Oz 0 Cz uM [dL,df] 1 [(0,12)] 100 101=(az,0):=by decide+kernel
def zm2:oQ Rz Oz 0 Cz uM [dL,df] 2 [(1,19)] 102 103=(bz,0):=by decide+kernel
def zq1:fB (cz [dL,df] []) (2,bz)=(0,[(2,bz)]):=by decide+kernel
def zq2:fB (cz [dL,df] [(2,bz)]) (1,az)=(0,[(1,az),(2,bz)]):=by decide+kernel
def zc5:dD (cz [dL,df] [(1,az),(2,bz)])=0:=by decide+kernel
def zd1:iB jk=V:=by decide+kernel
def zk:iT Rz Oz 0 Cz uM [dL,df] [az,bz]=((ez,we),V,0):=by decide+kernel
def zv:rC (af Cz 0) uM ez we=V:=by decide+kernel
def ztl:F uM<=1000000:=by decide+kernel
def anS:Tryz.f27.results.toList=[.cell 0 27,.tmp 1]:=by kernel_rfl
def anT:Tryz.f29.results.toList=[.cell 6 46]:=by kernel_rfl
def C'{g}{a}{y}(c:bN W8 g a y)(b:LA.contains g=V)(h2:LB.contains g=V)(d:LC.contains g=V)(e:LD.contains g=V)(f:LE.contains g=V)(i:LF.contains g=V):bN SF g a y:=ym (Ln (nS c b h2) d e f) i
def adf(k x y):iI aa 46 [(0,I k),(2,I x),(3,I y)]=J (.agg (aB ⟨k,0,x,y⟩)):=by kernel_rfl
def alS(h:Heap)(k d f:Int):∃r h',SF.call 29 [I k,I d,I f] h=J (r,h')/\r=.ret (.agg (aB (n_ k d f))):=by
 have g:=(C' (V' 4 d) O O O O O O).call;have i:=(C' (V' 4 f) O O O O O O).call;have z:=zV;have e:=adf k (fj 4 d) (fj 4 f);have st:bV aa (h.push (aB ⟨0,0,0,0⟩)) 46 (.ptr (.box (F h.boxes)) 0) (.agg (aB ⟨k,0,fj 4 d,fj 4 f⟩))=J (h.push (aB ⟨k,0,fj 4 d,fj 4 f⟩)):=zQ _;have l:=jZ (aK h (aB ⟨k,0,fj 4 d,fj 4 f⟩));unfold n_;generalize j:aB ⟨k,0,fj 4 d,fj 4 f⟩=m at *
 generalize aB ⟨0,0,0,0⟩=b at *
 unfold I at *
 refine bL O Tryz.func29 O ?_;refine bh @anT ?_;exact⟨_,_,O,O⟩
def Xz:U:=.list .tight 1 [[.list .tight 1 (ints [1,1])],[.list .tight 1 (ints [1,2])]]
def Yz:U:=.list .tight 1 (ints [1,2])
def xz:RL Xz Rz:=by
 refine⟨.tight,1,[.list .tight 1 (ints [1,1]),.list .tight 1 (ints [1,2])],O,λ_=>rfl,O,λe a f b d=>?_⟩
 match e with
 |0=>injection b with b;injection d with d;subst b;subst d;exact⟨_,_,O,λ_=>rfl⟩
 |1=>injection b with b;injection d with d;subst b;subst d;exact⟨_,_,O,λ_=>rfl⟩
 |e+2=>simp at b
def xr:IL Yz Oz:=⟨_,_,O,λ_=>rfl⟩
def DN:al Xz=Xz:=by unfold Xz;simp only[al,dm,a_,rT];rfl
def DO:al Yz=Yz:=by unfold Yz;simp only[al,rT];rfl
def adJ:fy aa 22 2 [(0,.list .tight 1 (ints [1,1])),(1,.list .tight 1 (ints [1,2]))]=J Xz:=by kernel_rfl
def ada:iI aa 25 [(0,Xz),(1,Yz)]=J (.agg [Xz,Yz]):=by kernel_rfl
def RW(a):fy aa 23 1 [(0,.v (.int .i64 a))]=J (.list .tight 1 (ints [a])):=by kernel_rfl
def afU:p_ Rz Oz 5 [7]=0:=by decide+kernel
def afT:oJ Rz [5,7]=[(0,12),(1,19)]:=by decide+kernel
def atV(h:Heap):∃i d,SL i [(0,12),(1,19)]/\IL d Cz/\al i=i/\al d=d/\∃r h',SF.call 27 [] h=J (r,h')/\r=.ret (.tuple [.agg (aM 0 Xz Yz d),i]):=by
 obtain⟨i,d,j,e,q⟩:=aj0 xz xr (⟨.tight,1,O,λ_=>rfl⟩:IL (.list .tight 1 (ints [7])) [7]) aY aY 5 afU;rw[afT]at j;have e:IL d Cz:=e;rw[DN,DO]at q;have t:al (.list .tight 1 (ints [7]))=.list .tight 1 (ints [7]):=by simp only[al,rT];rfl
 rw[t]at q;have o:=q.nh ⟨[],[],0,[]⟩;have l:al i=i:=by obtain⟨p,s,rfl,-⟩:=j;have n:U.tuple [.list (bU p) s (bO [(0,12),(1,19)]),dE ⟨[],[],0,[]⟩ d,I 0]=.tuple [.list p s (bO [(0,12),(1,19)]),d,I 0]:=o;have h2:=(QE (U.tuple.inj n)).1;rw[al,Ho];exact h2
 have m:al d=d:=by obtain⟨p,s,rfl,-⟩:=e;have n:U.tuple [dE ⟨[],[],0,[]⟩ i,.list (bU p) s (ints Cz),I 0]=.tuple [i,.list p s (ints Cz),I 0]:=o;have h2:=(QE (QE (U.tuple.inj n)).2).1;rw[al,rT];exact h2
 have u:=(C' q O O O O O O).call;refine⟨i,d,j,e,l,m,?_⟩;have A:=Gb 1 1;have B:=Gb 1 2;have b3:=adJ;have b4:=ada;have C:=RW 7;have S:=auL;have T:=aab;have D:=adb xz xr e;have f:(U.agg [Xz,Yz]).bF=J [Xz,Yz]:=uu xz xr;have k:(U.agg (aM 0 Xz Yz d)).bF=J (aM 0 Xz Yz d):=nC xz xr e;obtain⟨b,g⟩:∃b,(h.push (aM 0 nl nl nl)).push [Xz,Yz]=b:=⟨_,O⟩;have N:bV aa ((h.push (aM 0 nl nl nl)).push [nl,nl]) 25 (.ptr (.box (F (h.push (aM 0 nl nl nl)).boxes)) 0) (.agg [Xz,Yz])=J b:=by rw[<-g];exact lJ f bD O O
 have t0:b.boxes[h.boxes.length]?=J (aM 0 nl nl nl):=by rw[<-g];exact aN (aK _ _)
 have t1:b.boxes[(h.push (aM 0 nl nl nl)).boxes.length]?=J [Xz,Yz]:=by rw[<-g];exact aK _ _
 have E:aD aa Gt b 25 (.ptr (.box (F (h.push (aM 0 nl nl nl)).boxes)) 0)=J (.agg [Xz,Yz]):=uo t1;have R:bV aa b 27 (.ptr (.box (F h.boxes)) 0) (.agg (aM 0 Xz Yz d))=J (b.put (F h.boxes) (aM 0 Xz Yz d)):=by rw[fC (off:=0) k Fl t0 O (aV 4)];rfl
 have L:aD aa Gt (b.put (F h.boxes) (aM 0 Xz Yz d)) 27 (.ptr (.box (F h.boxes)) 0)=J (.agg (aM 0 Xz Yz d)):=by rw[fR bD Fl (dh (aT.1 t0).1) (jR O)];rfl
 clear t0 t1 o q j e l m f;unfold Yz at *
 generalize Xz=y at *
 generalize aM 0 y (.list .tight 1 (ints [1,2])) d=K at *
 generalize aM 0 nl nl nl=v at *
 unfold I at *
 refine bL O Tryz.func27 O ?_;refine bh @anS ?_;exact⟨_,_,O,O⟩
def LG:List aR:=LF++[20,29,27]
noncomputable def OI:aR->Option (List U->Heap->Option (U × Heap)):=lU SF LG
noncomputable abbrev SG:=whole aa Gt OI
def yg:mo OI LG:=rK
def AC{g}{a}{y}(c:bN SF g a y)(b:LG.contains g=V):bN SG g a y:=c.up (L:=LG) b
def S3{g}{a}{y}(c:bN SC g a y)(b:LD.contains g=V)(d:LE.contains g=V)(e:LF.contains g=V)(f:LG.contains g=V):bN SG g a y:=AC (ym ((c.mix (L:=LD) b).mix (L:=LE) d) e) f
def Lo{g}{a}{y}(c:bN SD g a y)(b:LE.contains g=V)(d:LF.contains g=V)(e:LG.contains g=V):bN SG g a y:=AC (ym (c.mix (L:=LE) b) d) e
def aff{g}{a}{y}(c:bN SB g a y)(b:LC.contains g=V)(d:LD.contains g=V)(e:LE.contains g=V)(f:LF.contains g=V)(i:LG.contains g=V):bN SG g a y:=S3 (c.mix (L:=LC) b) d e f i
def afg{g}{a}{y}(c:bN W8 g a y)(b:LA.contains g=V)(h2:LB.contains g=V)(d:LC.contains g=V)(e:LD.contains g=V)(f:LE.contains g=V)(i:LF.contains g=V)(j:LG.contains g=V):bN SG g a y:=AC (C' c b h2 d e f i) j
section
variable {c:Ce} {a a2:CA}
def GK(ok:cA c a)(d:dG a)(b:c.Fit):bN SG 11 [.agg (aM c.ep a.X a.Y a.C),.agg (bj c.doc a.p a.r a.n),a.W] (.tuple [.agg (aq (jp c) (iY c a)),I c.e_]):=S3 (Wc ok d b) O O O rfl
def GJ(ok:cA c a)(d:dG a)(b:c.Fit):bN SG 14 [.agg (aq c a)] (I (dD c)):=Lo (V_ ok d b) O O rfl
def ahh(ok:cA c a)(d:dG a)(b:c.Fit):bN SG 15 [.agg (aq c a)] (I (dD c)):=Lo (akh ok d b) O O rfl
def ahg(ok:cA c a)(e:dG a):∃b,(b=V->F c.rows<=80/\F c.ac<=80/\F c.ai<=80/\F c.doc.pa<=20/\F c.doc.rv<=20/\F c.doc.nd<=20/\F c.who<=80/\F c.bI<=20/\F c.parts<=20)/\bN SG 10 [.agg (aq c a)] (.v (.bool b)):=by obtain⟨b,d,f⟩:=aj3 ok e;exact⟨b,d,Lo f O O O⟩
def yA(ok:cA c a)(e:dG a)(j:ol a)(g:c.Fit)(f:F c.bI<1000000)(p:Pr):∃b,cA (iM c p) b/\dG b/\ol b/\bN SG 16 [.agg (aq c a),.agg (aB p)] (.tuple [.agg (aq (iM c p) b),I (fx c p).1]):=by
 obtain⟨b,d,h2,i,k⟩:=aka ok e j g f p;refine⟨b,d,h2,i,AC (ym (bN.qx (L:=LE) (k ⟨[],[],0,[]⟩) O (by simp only[a_,al,oG e,EJ]) (by simp only[aA,au,lV ok e];rfl) ?_ ?_) O) O⟩
 .simp only[dE,iF,Gi d h2];rfl
 .simp[au,aA,lV d h2,I]
def AT(ok:cA c a)(e:dG a)(j:ol a)(g:c.Fit)(f:F c.parts<1000000)(p:Int × Int):∃b,cA (jx c p) b/\dG b/\ol b/\bN SG 18 [.agg (aq c a),.agg (aZ p)] (.tuple [.agg (aq (jx c p) b),I (fB c p).1]):=by
 obtain⟨b,d,h2,i,k⟩:=akc ok e j g f p;refine⟨b,d,h2,i,AC (ym (bN.qx (L:=LE) (k ⟨[],[],0,[]⟩) O (by simp only[a_,al,oG e];rfl) (by simp only[aA,au,lV ok e];rfl) ?_ ?_) O) O⟩
 .simp only[dE,iF,Gi d h2];rfl
 .simp[au,aA,lV d h2,I]
def GN(ok:cA c a)(e:dG a)(d:cA c a2)(b:dG a2)(f:wE c):bN SG 13 [.agg (aq c a),.agg (aq c a2)] (.v (.bool V)):=by obtain⟨_,_,g,rfl,-⟩:=aro ⟨[],[],0,[]⟩ c a a2 ok d f;exact AC (bN.qx (L:=LF) g O (by simp only[a_,al,oG e,oG b]) (by simp only[aA,au,lV ok e,lV d b];rfl) O O) rfl
def ahf(ok:cA c a)(b:dG a)(d:c.Fit)(e:dD c≠0∨F c.parts<F c.who):bN SG 20 [.agg (aq c a)] (.tuple [.agg [I 0,I 0],.list .nil 0 [],.v (.bool ah),I (dD c)]):=by obtain⟨_,_,f,rfl⟩:=af0 ⟨[],[],0,[]⟩ ok b d e;exact bN.new (L:=LG) f O (by simp only[a_,al,oG b]) (by simp only[aA,au,lV ok b];rfl) O rfl
def ahe(ok:cA c a)(d:dG a)(j:c.Fit)(k:dD c=0)(m:¬F c.parts<F c.who)(f:F (cB (ja c.doc))<=1000000)(l:iB c.doc=V){g i e:Int}
 (b:iT c.rows c.ac c.ep c.ai (cB (ja c.doc)) c.bI (c.parts.map mA)=((g,i),V,e)):bN SG 20 [.agg (aq c a)] (.tuple [.agg [I g,I i],.list .nil 0 [],.v (.bool V),I 0]):=by
 obtain⟨_,_,n,rfl⟩:=af1 ⟨[],[],0,[]⟩ ok d j k m f l (by rw[b]);rw[b]at n;exact bN.new (L:=LG) n O (by simp only[a_,al,oG d]) (by simp only[aA,au,lV ok d];rfl) O rfl
def GL(k d f):bN SG 29 [I k,I d,I f] (.agg (aB (n_ k d f))):=by obtain⟨_,_,b,rfl⟩:=alS ⟨[],[],0,[]⟩ k d f;exact bN.new (L:=LG) b O O O O rfl
def ahi(ok:cA c a)(b:dG a)(e:c.Fit)(d:iB c.doc=V):∃T,BL T (cB (ja c.doc))/\al T=T/\bN SG 28 [.agg (bj c.doc a.p a.r a.n)] (.tuple [T,I 0]):=by obtain⟨T,f,h2,g⟩:=NJ ok.d e.2.2.2.1;rw[b.p,b.r,b.n,av d]at g;exact⟨T,f d,h2,aff g O O O O O⟩
end
def ahj:∃f g,SL f [(0,12),(1,19)]/\IL g Cz/\al f=f/\al g=g/\bN SG 27 [] (.tuple [.agg (aM 0 Xz Yz g),f]):=by
 obtain⟨f,g,b,h2,d,e,_,_,l,rfl⟩:=atV ⟨[],[],0,[]⟩;refine⟨f,g,b,h2,d,e,bN.new (L:=LG) l O O O ?_ ?_⟩
 .obtain⟨n,o,j,-⟩:=b;obtain⟨k,m,i,-⟩:=h2;simp only[dE,iF,aM,qr j d,qr i e,qr (show Xz=.list .tight 1 _ from O) DN,qr (show Yz=.list .tight 1 _ from O) DO]
 .obtain⟨-,f1⟩:=b.hold;obtain⟨-,f2⟩:=h2.hold;obtain⟨-,f3⟩:=xz.fk;obtain⟨-,f4⟩:=xr.hold;rw[d]at f1;rw[e]at f2;rw[DN]at f3;rw[DO]at f4;simp[au,aA,aM,f1,f2,f3,f4]
def Y3(k):ry k k=V:=by cases k<;>simp[ry]
def Jg:∀a b:List U,fV a a=V->fV b b=V->fV (a++b) (a++b)=V
 | [],b,_,e=>e
 |x::a,b,d,e=>by simp only[fV,bm]at d;rw[ey,fV,d.1,Jg a b d.2 e];rfl
def Y4:∀l:List UInt8,fV (l.map fJ) (l.map fJ)=V
 | []=>rfl
 |x::l=>by rw[eI,fV,Y4 l];simp[cE,gF,fJ]
def Y0(p):fV (aB p) (aB p)=V:=by simp[fV,cE,gF,aB]
def arz(p):fV (aZ p) (aZ p)=V:=by simp[fV,cE,gF,aZ]
def Y1:∀l:List Pr,mI (bH l) (bH l)=V
 | []=>rfl
 |x::l=>by show(fV (aB x) (aB x)&&mI (bH l) (bH l))=V;rw[Y0,Y1 l];rfl
def Y2:∀l:List (Int × Int),mI (bO l) (bO l)=V
 | []=>rfl
 |x::l=>by show(fV (aZ x) (aZ x)&&mI (bO l) (bO l))=V;rw[arz,Y2 l];rfl
def PL.same{x}{l}(h:PL x l):cE x x=V:=by obtain⟨b,d,rfl,-⟩:=h;simp[cE,Y3,Y1]
def SL.same{x}{l}(h:SL x l):cE x x=V:=by obtain⟨b,d,rfl,-⟩:=h;simp[cE,Y3,Y2]
def Pw{c}{a}(ok:cA c a):cE (.agg (aq c a)) (.agg (aq c a))=V:=by
 rw[cE];unfold aq bj;refine Jg _ _ (Jg _ _ ?_ (Jg _ _ ?_ (Y4 _))) ?_
 .simp[aM,fV,cE,gF,ok.x.same,ok.y.same,ok.cm.same]
 .simp[fV,cE,gF,I,ok.d.p.same,ok.d.r.same,ok.d.n.same]
 .simp[fV,ok.w.same,ok.pa.same,ok.z.same]
def cw(w:List Int)(d:Dc):Ce:=⟨Rz,Oz,0,Cz,d,w,[],[]⟩
def aw(b W:U):CA:=⟨Xz,Yz,b,nl,nl,nl,W,nl,nl⟩
def xq:IL nl []:=⟨.nil,0,O,λb=>absurd O b⟩
def Im{j W}{w}{d}(g:IL j Cz)(i:IL W w)(b:d.pa=[])(h2:d.rv=[])(e:d.nd=[])(f:F d.tx=32):cA (cw w d) (aw j W):=
 ⟨xz,xr,g,⟨by rw[show(cw w d).doc.pa=[] from b];exact xq,by rw[show(cw w d).doc.rv=[] from h2];exact xq,by rw[show(cw w d).doc.nd=[] from e];exact xq,f⟩,i,fS.pa,fS.z⟩
def Mx{b W}(d:al b=b)(e:al W=W):dG (aw b W):=⟨DN,DO,d,O,O,O,e,O,O⟩
def Xf{b W}:ol (aw b W):=⟨λ_ _ h=>by cases h;rfl,λ_ _ h=>by cases h;rfl⟩
def LM{w}{d}(e:F w<=1000000)(b:d.sV):(cw w d).Fit:=⟨by show F Rz<=_;decide,by show F Cz<=_;decide,e,b,by show(F ([]:List Pr))<=_;decide,by show(F ([]:List (Int × Int)))<=_;decide⟩
def Lm:jk.sV:=⟨aY,by decide,by decide⟩
def SY:d0.sV:=⟨aY,by decide,by decide⟩
def qT{l}{z}(b:F l<=1000000)(d:F z<=1000000):(cz l z).Fit:=⟨by show F Rz<=_;decide,by show F Cz<=_;decide,by show(F ([1,2]:List Int))<=_;decide,Lm,b,d⟩
def agM:c0.Fit:=⟨aY,by decide,by decide,SY,by decide,by decide⟩
def Od{c}{a}{e}(h:c.e_=e)(b:e≠0):jp c=c0/\iY c a=a0:=by unfold jp iY;rw[aL (by rw[h];exact b),aL (by rw[h];exact b)];exact⟨O,O⟩
def alM{c}{a}(h:c.e_=0):jp c={c with bI:=[],parts:=[]}/\iY c a={a with Pa:=nl,Z:=nl}:=by unfold jp iY;rw[av h,av h];exact⟨O,O⟩
def MW(l):al (.list .tight 1 (ints l))=.list .tight 1 (ints l):=by simp only[al,rT];rfl
def auM:(fW aa 31).bind U.bF=J (bj d0 nl nl nl):=by kernel_rfl
def ade:iI aa 31 [(0,I 3),(5,I 9)]=J (.agg (bj jk nl nl nl)):=by kernel_rfl
def adc:iI aa 31 []=J (.agg (bj d0 nl nl nl)):=by kernel_rfl
def ato:cC aa 31=J 41:=by kernel_rfl
def adg(k):iI aa 48 [(0,I k)]=J (.agg (aZ (k,0))):=by kernel_rfl
def RN(k z):iI aa 48 [(0,I k),(1,I z)]=J (.agg (aZ (k,z))):=by kernel_rfl
def asd(k)(a b):gw aa 72 (.list k 2 (bO [a,b])) ag (J (.v (.int .i64 1))) ag=J (.list (p9 k ah ah 1) 2 (bO [a])):=by kernel_rfl
def ase(k)(a b):gw aa 72 (.list k 2 (bO [a,b])) (J (.v (.int .i64 1))) ag ag=J (.list (p9 k V ah 1) 2 (bO [b])):=by kernel_rfl
def oX{H:Heap}{D}(d:F D=48)(b:(U.agg D).bF=J D):bV aa (H.push (aq c0 a0)) 35 (.ptr (.box (F H.boxes)) 0) (.agg D)=J (H.push D):=by rw[qy fS.len d b (aK _ _),mg]
def rk:Tryz.f8.results.toList=[.tmp 0]:=by kernel_rfl
def alq{b T}(l:IL b Cz)(g:al b=b)(j:BL T uM)(e:al T=T)(t)(s)(k d f):∀h,SG.call 30 [.agg (aM 0 Xz Yz b),T,.list .tight 4 (bH [dL,df]),I k,.list t 2 (bO [s]),I d,I f] h=J (.ret (.tuple [I (oQ Rz Oz 0 Cz uM [dL,df] k [s] d f).1,I (oQ Rz Oz 0 Cz uM [dL,df] k [s] d f).2]),h):=by have i:PL (.list .tight 4 (bH [dL,df])) [dL,df]:=⟨_,_,O,λ_=>rfl⟩;have m:bN SF 30 _ _:=C' (aj8 (ep:=0) xz xr l j i (⟨t,2,O,λ_=>rfl⟩:SL (.list t 2 (bO [s])) [s]) aY aY b8 k d f) O O O O O O;refine bN.use (L:=LG) m O ?_;simp only[a_,al,D4,aM,DN,DO,g,e];rfl
def arA(h:Heap):∃r h',SG.call 8 [] h=J (r,h')/\r=.ret (.v (.bool V)):=by
 obtain⟨z8,B,hU,hV,eU,eV,q27⟩:=ahj;have c27:=q27.call;have i1:IL (.list .tight 1 (ints [1])) [1]:=⟨_,_,O,λ_=>rfl⟩;have i2:IL (.list .tight 1 (ints [2,1])) [2,1]:=⟨_,_,O,λ_=>rfl⟩;have i3:IL (.list .tight 1 (ints [1,2])) [1,2]:=⟨_,_,O,λ_=>rfl⟩;have o1:=Im (d:=jk) hV i1 O O O O;have o2:=Im (d:=jk) hV i2 O O O O;have o3:=Im (d:=d0) hV i3 O O O O;have p:cA (cz [] []) (aw B (.list .tight 1 (ints [1,2]))):=Im (d:=jk) hV i3 O O O O;have D:=Mx eV (MW [1]);have t:=Mx eV (MW [2,1]);have f:=Mx eV (MW [1,2]);have n1:∀h,SG.call 11 [.agg (aM 0 Xz Yz B),.agg (bj jk nl nl nl),.list .tight 1 (ints [1])] h=J (.ret (.tuple [.agg (aq c0 a0),I 440]),h):=by have j:=(GK o1 D (LM aY Lm)).call;obtain⟨f1,f2⟩:=Od (c:=cw [1] jk) (a:=aw B (.list .tight 1 (ints [1]))) zn1 aY;rw[f1,f2,show(cw [1] jk).e_=440 from zn1]at j;exact j
 have n2:∀h,SG.call 11 [.agg (aM 0 Xz Yz B),.agg (bj jk nl nl nl),.list .tight 1 (ints [2,1])] h=J (.ret (.tuple [.agg (aq c0 a0),I 1]),h):=by have j:=(GK o2 t (LM aY Lm)).call;obtain⟨f1,f2⟩:=Od (c:=cw [2,1] jk) (a:=aw B (.list .tight 1 (ints [2,1]))) zn2 aY;rw[f1,f2,show(cw [2,1] jk).e_=1 from zn2]at j;exact j
 have n3:∀h,SG.call 11 [.agg (aM 0 Xz Yz B),.agg (bj d0 nl nl nl),.list .tight 1 (ints [1,2])] h=J (.ret (.tuple [.agg (aq c0 a0),I 170]),h):=by have j:=(GK o3 f (LM aY SY)).call;obtain⟨f1,f2⟩:=Od (c:=cw [1,2] d0) (a:=aw B (.list .tight 1 (ints [1,2]))) zn3 aY;rw[f1,f2,show(cw [1,2] d0).e_=170 from zn3]at j;exact j
 have n4:∀h,SG.call 11 [.agg (aM 0 Xz Yz B),.agg (bj jk nl nl nl),.list .tight 1 (ints [1,2])] h=J (.ret (.tuple [.agg (aq (cz [] []) (aw B (.list .tight 1 (ints [1,2])))),I 0]),h):=by have j:=(GK p f (qT aY aY)).call;obtain⟨f1,f2⟩:=alM (c:=cz [] []) (a:=aw B (.list .tight 1 (ints [1,2]))) zn4;rw[f1,f2,show(cz [] []).e_=0 from zn4]at j;exact j
 obtain⟨a5,o5,-,-,q5⟩:=AT p f Xf (qT aY aY) aY (1,0);have p5:jx (cz [] []) (1,0)=c0:=by unfold jx;rw[zp0];rfl
 rw[p5]at o5 q5;rw[zp0]at q5;have c5:=q5.call;have c6:=(ahf p f (qT aY aY) (.inr aY)).call;rw[zc1]at c6;have c7:=(GJ fS uc agM).call;rw[zc0]at c7;have c8:=(GJ p f (qT aY aY)).call;rw[zc1]at c8;obtain⟨z0,hT,eT,q9⟩:∃z0,BL z0 uM/\al z0=z0/\bN SG 28 [.agg (bj jk nl nl nl)] (.tuple [z0,I 0]):=ahi p f (qT aY aY) zd1;have c9:=q9.call;have m1:∀h,SG.call 29 [I 1,I 100,I 101] h=J (.ret (.agg (aB dL)),h):=(GL 1 100 101).call;have m2:∀h,SG.call 29 [I 2,I 102,I 103] h=J (.ret (.agg (aB df)),h):=(GL 2 102 103).call;have m3:=(GL 2 1 2).call;have m4:=(GL 3 1 2).call;obtain⟨a6,o6,h6,l6,qp1⟩:=yA p f Xf (qT aY aY) aY df;have p6:iM (cz [] []) df=cz [df] []:=by unfold iM;rw[zp1];rfl
 rw[p6]at o6 qp1;rw[zp1]at qp1;have c10:=qp1.call;obtain⟨a7,y,h7,l7,qp2⟩:=yA o6 h6 l6 (qT aY aY) (by show(F ([df]:List Pr))<_;decide) dL;have p7:iM (cz [df] []) dL=cz [dL,df] []:=by unfold iM;rw[zp2];rfl
 rw[p7]at y qp2;rw[zp2]at qp2;have c11:=qp2.call;obtain⟨a8,o8,-,-,qp3⟩:=yA y h7 l7 (qT aY aY) (by show(F ([dL,df]:List Pr))<_;decide) (n_ 2 1 2);rw[zp3]at qp3;have c12:=qp3.call;obtain⟨a9,o9,-,-,qp4⟩:=yA y h7 l7 (qT aY aY) (by show(F ([dL,df]:List Pr))<_;decide) (n_ 3 1 2);rw[zp4]at qp4;have c13:=qp4.call;obtain⟨L,sU,rfl,HB⟩:=hU;have HB:=HB b8;subst HB;have hL:PL (.list .tight 4 (bH [dL,df])) [dL,df]:=⟨_,_,O,λ_=>rfl⟩;have AX:al (.list .tight 4 (bH [dL,df]))=.list .tight 4 (bH [dL,df]):=by simp only[al,D4];rfl
 have mk:=λ(z6:Tok) (z5:Int × Int) (z4 z2 z3:Int)=>alq hV eV hT eT z6 z5 z4 z2 z3;have c14:=mk (p9 L ah ah 1) (0,12) 1 100 101;have c15:=mk (p9 L V ah 1) (1,19) 2 102 103;rw[zm1]at c14;rw[zm2]at c15;obtain⟨a10,S,T_,l10,qp5⟩:=AT y h7 l7 (qT aY aY) aY (2,bz);have p10:jx (cz [dL,df] []) (2,bz)=cz [dL,df] [(2,bz)]:=by unfold jx;rw[zq1];rfl
 rw[p10]at S qp5;rw[zq1]at qp5;have c16:=qp5.call;obtain⟨a11,Z,Ua,l11,qp6⟩:=AT S T_ l10 (qT aY aY) (by show(F ([(2,bz)]:List (Int × Int)))<_;decide) (1,az);have p11:jx (cz [dL,df] [(2,bz)]) (1,az)=cz [dL,df] [(1,az),(2,bz)]:=by unfold jx;rw[zq2];rfl
 rw[p11]at Z qp6;rw[zq2]at qp6;have c17:=qp6.call;have c18:=(ahe Z Ua (qT aY aY) zc5 aY ztl zd1 zk).call;have qv:=afg (akn hT ztl (af Cz 0) ez we) O O O O O O O;rw[eT,show rC (af Cz 0) uM ez we=V from zv]at qv;have c19:=qv.call;have Us:SL (.list L 2 (bO [(0,12),(1,19)])) [(0,12),(1,19)]:=⟨L,2,O,λ_=>rfl⟩;have lnU:dB aa 72 (.list L 2 (bO [(0,12),(1,19)]))=J (.v (.int .i64 2)):=Us.dB;have lnN:dB aa 23 (.list .nil 0 [])=J (.v (.int .i64 0)):=xq.dB;have lnV:dB aa 23 B=J (.v (.int .i64 2)):=hV.dB;have lnW:dB aa 23 (.list .tight 1 (ints [1,2]))=J (.v (.int .i64 2)):=i3.dB;have ixV:dK aa 23 B (.v (.int .i64 0))=J (.elem 1 (ints Cz) 0 0):=hV.ix (i:=0) aY;have ldV:∀H:Heap,aD aa Gt H 3 (.elem 1 (ints Cz) 0 0)=J (.v (.int .i64 (af Cz 0))):=λH=>eS aY;have ixP0:dK aa 32 (.list .tight 4 (bH [dL,df])) (.v (.int .i64 0))=J (.elem 4 (bH [dL,df]) 0 0):=hL.ix (i:=0) aY;have ixP1:dK aa 32 (.list .tight 4 (bH [dL,df])) (.v (.int .i64 1))=J (.elem 4 (bH [dL,df]) 1 0):=hL.ix (i:=1) aY;have ldP0:∀H:Heap,aD aa Gt H 46 (.elem 4 (bH [dL,df]) 0 0)=J (.agg (aB dL)):=λH=>qt O;have ldP1:∀H:Heap,aD aa Gt H 46 (.elem 4 (bH [dL,df]) 1 0)=J (.agg (aB df)):=λH=>qt O;have sl1:=asd L (0,12) (1,19);have sl2:=ase L (0,12) (1,19);have bp:=adN dL df;have bz1:=adg 1;have bz2:=RN 2 bz;have bz3:=RN 1 az;have bo:=RW 1;have bo2:=Gb 1 2;have bo3:=Gb 2 1;have bdz:=ade;have bde:=adc;have be:=P';have z27:=aab;have z31:=auM;have z35:=wi;have z52:=JG;have f27:=λm=>iU (b:=m);have f35:=py;have sD:=Pw p;have sP:=Y0 df;have sP2:cE (.agg (aB df)) (.agg (aB df))=V:=by rw[cE];exact sP
 have sY:=Pw y;have kcell:(U.agg (aM 0 Xz Yz B)).bF=J (aM 0 Xz Yz B):=nC xz xr hV;have dcell:(U.agg (bj jk nl nl nl)).bF=J (bj jk nl nl nl):=o1.d.cells;obtain⟨H0,rN⟩:∃H,h.push (aM 0 Xz Yz B)=H:=⟨_,O⟩;obtain⟨H1,tV⟩:∃H,H0.push (bj jk nl nl nl)=H:=⟨_,O⟩;obtain⟨H2,vi⟩:∃H,H1.push (aq c0 a0)=H:=⟨_,O⟩;obtain⟨H3,w_⟩:∃H,H2.push (aq c0 a0)=H:=⟨_,O⟩;obtain⟨N,qV⟩:∃H,H3.push (aq c0 a0)=H:=⟨_,O⟩;obtain⟨H5,qg⟩:∃H,N.push (aq (cz [] []) (aw B (.list .tight 1 (ints [1,2]))))=H:=⟨_,O⟩;obtain⟨H6,Y⟩:∃H,H5.push (aq c0 a5)=H:=⟨_,O⟩;obtain⟨e,Ds⟩:∃H,H6.push [I 0,I 0]=H:=⟨_,O⟩;obtain⟨H8,Dt⟩:∃H,e.push (aq (cz [df] []) a6)=H:=⟨_,O⟩;obtain⟨H9,Du⟩:∃H,H8.put (F e.boxes) (aq (cz [dL,df] []) a7)=H:=⟨_,O⟩;obtain⟨T,u⟩:∃H,H9.push (aq (iM (cz [dL,df] []) (n_ 2 1 2)) a8)=H:=⟨_,O⟩;obtain⟨k,GU⟩:∃H,T.push (aq (iM (cz [dL,df] []) (n_ 3 1 2)) a9)=H:=⟨_,O⟩;obtain⟨H12,R⟩:∃H,k.push (aq (cz [dL,df] [(2,bz)]) a10)=H:=⟨_,O⟩;obtain⟨A,GV⟩:∃H,H12.put (F k.boxes) (aq (cz [dL,df] [(1,az),(2,bz)]) a11)=H:=⟨_,O⟩;obtain⟨H14,GW⟩:∃H,A.push [I ez,I we]=H:=⟨_,O⟩;have s0:bV aa (h.push (aM 0 nl nl nl)) 27 (.ptr (.box (F h.boxes)) 0) (.agg (aM 0 Xz Yz B))=J H0:=by rw[<-rN];exact lJ kcell Fl O O
 have s1:bV aa (H0.push (bj d0 nl nl nl)) 31 (.ptr (.box (F H0.boxes)) 0) (.agg (bj jk nl nl nl))=J H1:=by rw[<-tV];exact lJ dcell ato O O
 have s2:bV aa (H1.push (aq c0 a0)) 35 (.ptr (.box (F H1.boxes)) 0) (.agg (aq c0 a0))=J H2:=by rw[<-vi];exact oX fS.len fS.cells
 have s3:bV aa (H2.push (aq c0 a0)) 35 (.ptr (.box (F H2.boxes)) 0) (.agg (aq c0 a0))=J H3:=by rw[<-w_];exact oX fS.len fS.cells
 have s4:bV aa (H3.push (aq c0 a0)) 35 (.ptr (.box (F H3.boxes)) 0) (.agg (aq c0 a0))=J N:=by rw[<-qV];exact oX fS.len fS.cells
 have s5:bV aa (N.push (aq c0 a0)) 35 (.ptr (.box (F N.boxes)) 0) (.agg (aq (cz [] []) (aw B (.list .tight 1 (ints [1,2])))))=J H5:=by rw[<-qg];exact oX p.len p.cells
 have s6:bV aa (H5.push (aq c0 a0)) 35 (.ptr (.box (F H5.boxes)) 0) (.agg (aq c0 a5))=J H6:=by rw[<-Y];exact oX o5.len o5.cells
 have s7:bV aa (H6.push [I 0,I 0]) 52 (.ptr (.box (F H6.boxes)) 0) (.agg [I 0,I 0])=J e:=by rw[<-Ds];exact lJ O Fm O O
 have s8:bV aa (e.push (aq c0 a0)) 35 (.ptr (.box (F e.boxes)) 0) (.agg (aq (cz [df] []) a6))=J H8:=by rw[<-Dt];exact oX o6.len o6.cells
 have t8:H8.boxes[e.boxes.length]?=J (aq (cz [df] []) a6):=by rw[<-Dt];exact aK _ _
 have s9:bV aa H8 35 (.ptr (.box (F e.boxes)) 0) (.agg (aq (cz [dL,df] []) a7))=J H9:=by rw[<-Du];exact qy o6.len y.len y.cells t8
 have s10:bV aa (H9.push (aq c0 a0)) 35 (.ptr (.box (F H9.boxes)) 0) (.agg (aq (iM (cz [dL,df] []) (n_ 2 1 2)) a8))=J T:=by rw[<-u];exact oX o8.len o8.cells
 have s11:bV aa (T.push (aq c0 a0)) 35 (.ptr (.box (F T.boxes)) 0) (.agg (aq (iM (cz [dL,df] []) (n_ 3 1 2)) a9))=J k:=by rw[<-GU];exact oX o9.len o9.cells
 have s12:bV aa (k.push (aq c0 a0)) 35 (.ptr (.box (F k.boxes)) 0) (.agg (aq (cz [dL,df] [(2,bz)]) a10))=J H12:=by rw[<-R];exact oX S.len S.cells
 have t12:H12.boxes[k.boxes.length]?=J (aq (cz [dL,df] [(2,bz)]) a10):=by rw[<-R];exact aK _ _
 have s13:bV aa H12 35 (.ptr (.box (F k.boxes)) 0) (.agg (aq (cz [dL,df] [(1,az),(2,bz)]) a11))=J A:=by rw[<-GV];exact qy S.len Z.len Z.cells t12
 have s14:bV aa (A.push [I 0,I 0]) 52 (.ptr (.box (F A.boxes)) 0) (.agg [I ez,I we])=J H14:=by rw[<-GW];exact lJ O Fm O O
 have n0:F H0.boxes=F h.boxes+1:=by rw[<-rN,bE]
 have n1':F H1.boxes=F h.boxes+2:=by rw[<-tV,bE,n0]
 have n2':F H2.boxes=F h.boxes+3:=by rw[<-vi,bE,n1']
 have n3':F H3.boxes=F h.boxes+4:=by rw[<-w_,bE,n2']
 have n4':F N.boxes=F h.boxes+5:=by rw[<-qV,bE,n3']
 have n5':F H5.boxes=F h.boxes+6:=by rw[<-qg,bE,n4']
 have n6':F H6.boxes=F h.boxes+7:=by rw[<-Y,bE,n5']
 have n7':F e.boxes=F h.boxes+8:=by rw[<-Ds,bE,n6']
 have n8':F H8.boxes=F h.boxes+9:=by rw[<-Dt,bE,n7']
 have n9':F H9.boxes=F h.boxes+9:=by rw[<-Du,je,n8']
 have n11':F k.boxes=F h.boxes+11:=by rw[<-GU,bE,<-u,bE,n9']
 have up:∀{z1:Heap} {m:Nat} {b cs2:List U},z1.boxes[m]?=J b->(z1.push cs2).boxes[m]?=J b:=λj=>aN j;have r1:∀{m:Nat} {b:List U},H1.boxes[m]?=J b->N.boxes[m]?=J b:=λj=>by rw[<-qV,<-w_,<-vi];exact up (up (up j))
 have r4:∀{m:Nat} {b:List U},N.boxes[m]?=J b->e.boxes[m]?=J b:=λj=>by rw[<-Ds,<-Y,<-qg];exact up (up (up j))
 have r7:∀{m:Nat} {b:List U},e.boxes[m]?=J b->H9.boxes[m]?=J b:=λ{m b} j=>by have:=(aT.1 j).1;rw[<-Du,cd M,<-Dt];exact up j
 have r9:∀{m:Nat} {b:List U},H9.boxes[m]?=J b->k.boxes[m]?=J b:=λj=>by rw[<-GU,<-u];exact up (up j)
 have r11:∀{m:Nat} {b:List U},k.boxes[m]?=J b->H14.boxes[m]?=J b:=λ{m b} j=>by have:=(aT.1 j).1;rw[<-GW];refine up ?_;rw[<-GV,cd M,<-R];exact up j
 have tk:H1.boxes[h.boxes.length]?=J (aM 0 Xz Yz B):=by rw[<-tV,<-rN];exact up (aK _ _)
 have td:H1.boxes[H0.boxes.length]?=J (bj jk nl nl nl):=by rw[<-tV];exact aK _ _
 have tc:H5.boxes[N.boxes.length]?=J (aq (cz [] []) (aw B (.list .tight 1 (ints [1,2])))):=by rw[<-qg];exact aK _ _
 have r5:∀{m:Nat} {b:List U},H5.boxes[m]?=J b->e.boxes[m]?=J b:=λj=>by rw[<-Ds,<-Y];exact up (up j)
 have lk:∀{z1:Heap},z1.boxes[h.boxes.length]?=J (aM 0 Xz Yz B)->aD aa Gt z1 27 (.ptr (.box (F h.boxes)) 0)=J (.agg (aM 0 Xz Yz B)):=λj=>by rw[fR bD Fl j (jR O)];rfl
 have lc:∀{z1:Heap},z1.boxes[h.boxes.length]?=J (aM 0 Xz Yz B)->aD aa Gt z1 23 (.ptr (.box (F h.boxes)) 3)=J B:=λj=>by rw[fm mW j];rfl
 have s:∀{m:Nat} {b:List U},H1.boxes[m]?=J b->H2.boxes[m]?=J b:=λj=>by rw[<-vi];exact up j
 have e0b:∀{m:Nat} {b:List U},H2.boxes[m]?=J b->H3.boxes[m]?=J b:=λj=>by rw[<-w_];exact up j
 have e0c:∀{m:Nat} {b:List U},H5.boxes[m]?=J b->H6.boxes[m]?=J b:=λj=>by rw[<-Y];exact up j
 have g1:=lk tk;have g2:=lk (s tk);have g3:=lk (e0b (s tk));have g4:=lk (r1 tk);have g5:=lk (r9 (r7 (r4 (r1 tk))));have g6:=lc (r4 (r1 tk));have g7:=lc (r11 (r9 (r7 (r4 (r1 tk)))));have GT:F (bj jk nl nl nl)=41:=o1.d.len;have d1:=vE GT td;have d2:=vE GT (s td);have d4:=vE GT (r1 td);have d5:=vE GT (r4 (r1 td));have x1:=io p.len tc;have x2:=io p.len (e0c tc);have x3:=io p.len (r5 tc);have x3w:aD aa Gt e 23 (.ptr (.box (F N.boxes)) 45)=J (.list .tight 1 (ints [1,2])):=(gL p (r5 tc)).2.2.1;have y1:=io o6.len t8;have t9:H9.boxes[e.boxes.length]?=J (aq (cz [dL,df] []) a7):=by rw[<-Du];exact dh M
 have y2:=io y.len t9;have y3:=io y.len (by rw[<-u];exact up t9:T.boxes[e.boxes.length]?=J (aq (cz [dL,df] []) a7));have y4:=io y.len (r9 t9);have y5:=io S.len t12;have x4:=io p.len (up (cs2:=aq c0 a0) (r5 tc));have y7:=io y.len (up (cs2:=aq c0 a0) t9);have y8:=io y.len (up (cs2:=aq c0 a0) (by rw[<-u];exact up t9:T.boxes[e.boxes.length]?=J (aq (cz [dL,df] []) a7)));have t13:A.boxes[k.boxes.length]?=J (aq (cz [dL,df] [(1,az),(2,bz)]) a11):=by rw[<-GV];exact dh (by rw[<-R,bE];omega)
 have y6:=io Z.len t13;have vS:=zD (by rw[<-GW];exact aK A [I ez,I we]:H14.boxes[A.boxes.length]?=J [I ez,I we]);clear q27 i1 i2 i3 o1 o2 o3 p D t f q5 p5 o5 hT q9 o6 h6 l6 qp1 p6 y h7 l7 qp2 p7 o8 qp3 o9 qp4 hL AX mk S T_ l10 qp5 p10 Z Ua l11 qp6 p11 qv Us hV eU HB eT eV kcell dcell up r1 r4 r7 r9 r11 tk td tc r5 lk lc s e0b e0c t8 t9 t12 t13 n0 n1' n2' n3' n4' n5' n6' n7' n8' n9' n11' rN tV vi w_ qV qg Y Ds Dt Du u GU R GV GW;simp only at c5 c10 c11 c16 c17;generalize aM 0 Xz Yz B=K at *
 generalize aM 0 nl nl nl=K0 at *
 generalize bj jk nl nl nl=z7 at *
 generalize bj d0 nl nl nl=D0 at *
 generalize aq (cz [] []) (aw B (.list .tight 1 (ints [1,2])))=DA at *
 generalize aq c0 a5=D5 at *
 generalize aq (cz [df] []) a6=D6 at *
 generalize aq (cz [dL,df] []) a7=D7 at *
 generalize aq (iM (cz [dL,df] []) (n_ 2 1 2)) a8=D8 at *
 generalize aq (iM (cz [dL,df] []) (n_ 3 1 2)) a9=D9 at *
 generalize aq (cz [dL,df] [(2,bz)]) a10=D10 at *
 generalize aq (cz [dL,df] [(1,az),(2,bz)]) a11=D11 at *
 generalize aq c0 a0=Z0 at *
 generalize aB dL=B1 at *
 generalize aB df=B2 at *
 generalize aB (n_ 2 1 2)=B3 at *
 generalize aB (n_ 3 1 2)=B4 at *
 generalize bH [dL,df]=X at *
 generalize bO [(0,12),(1,19)]=SU at *
 generalize bO [(0,12)]=SU1 at *
 generalize bO [(1,19)]=SU2 at *
 generalize aZ (1,0)=R0 at *
 generalize aZ (2,bz)=R2 at *
 generalize aZ (1,az)=R1 at *
 generalize ints Cz=CzL at *
 generalize af Cz 0=key at *
 generalize az=va at *
 generalize bz=vb at *
 generalize ez=ve at *
 generalize we=vs at *
 unfold I at *
 refine bL O Tryz.func8 O ?_;refine bh @rk ?_;refine bC.gen λs C hY eu dn=>?_;have q0_0:s.get 0=.v (.bool ah):=by rw[C];exact gS
 have q0_1:s.get 1=.ptr (.box (F h.boxes)) 0:=by rw[C];exact gS
 have q0_2:s.get 2=.list L 2 SU:=by rw[C];exact gS
 have q0_10:s.get 10=.ptr (.box (F N.boxes)) 0:=by rw[C];exact gS
 have q0_18:s.get 18=z0:=by rw[C];exact gS
 have q0_19:s.get 19=.v (.int .i64 0):=by rw[C];exact gS
 have q0_20:s.get 20=.list .tight 4 X:=by rw[C];exact gS
 have q0_d:s.defers=[]:=by rw[hY];exact gS
 clear C hY eu dn c27 n1 n2 n3 n4 c5 c6 c7 c8 c9 m1 m2 s0 s1 s2 s3 s4 s5 s6 s7 g1 g2 g3 g4 d1 d2 d4 d5 x1 x2 x3w bo bo2 bo3 bdz bde be z27 z31 lnN lnW lnU bp bz1 g6;refine iG [(0,8),(3,8)] yg bD (λz hz=>?_) ?_
 .simp only[gU,qJ,or_false]at hz;rcases hz with rfl|rfl
  .refine jN (x:=.ptr (.box (F N.boxes)) 0) (v:=.agg DA) bD O O O bD (sD) ?_ ?_<;>(simp only[dw,cX];exact dV @rk @and_self)
  .refine jN (x:=.elem 4 X 1 0) (v:=.agg B2) bD O O O bD (sP2) ?_ ?_<;>(simp only[dw,cX];exact dV @rk @and_self)
 refine bh @rk ?_;refine bC.gen λD q ii Hs vu=>?_;have q1_0:D.get 0=.v (.bool ah):=by rw[q];exact gA
 have q1_1:D.get 1=.ptr (.box (F h.boxes)) 0:=by rw[q];exact gA
 have q1_2:D.get 2=.list L 2 SU:=by rw[q];exact gA
 have q1_18:D.get 18=z0:=by rw[q];exact gA
 have q1_19:D.get 19=.v (.int .i64 0):=by rw[q];exact gA
 have q1_20:D.get 20=.list .tight 4 X:=by rw[q];exact gA
 have q1_21:D.get 21=.ptr (.box (F e.boxes)) 0:=by rw[q];exact gA
 have q1_22:D.get 22=.v (.int .i64 0):=by rw[q];exact gA
 have q1_d:D.defers=[]:=by rw[ii];exact gA
 clear q ii Hs vu q0_0 q0_1 q0_2 q0_10 q0_18 q0_19 q0_20 q0_d c10 s8 x3 x4 sD sP sP2 ixP1 ldP1;refine du yg bD ?_;refine bh @rk ?_;refine bC.gen λt o jw rU Hy=>?_;have q2_0:t.get 0=.v (.bool ah):=by rw[o];exact gA
 have q2_1:t.get 1=.ptr (.box (F h.boxes)) 0:=by rw[o];exact gA
 have q2_2:t.get 2=.list L 2 SU:=by rw[o];exact gA
 have q2_18:t.get 18=z0:=by rw[o];exact gA
 have q2_19:t.get 19=.v (.int .i64 0):=by rw[o];exact gA
 have q2_20:t.get 20=.list .tight 4 X:=by rw[o];exact gA
 have q2_21:t.get 21=.ptr (.box (F e.boxes)) 0:=by rw[o];exact gA
 have q2_22:t.get 22=.v (.int .i64 0):=by rw[o];exact gA
 have q2_23:t.get 23=.v (.int .i64 0):=by rw[o];exact gA
 have q2_d:t.defers=[]:=by rw[jw];exact gA
 clear o jw rU Hy q1_0 q1_1 q1_2 q1_18 q1_19 q1_20 q1_21 q1_22 q1_d c11 s9 y1 ixP0 ldP0;refine iG [(0,6)] yg bD (λz hz=>?_) ?_
 .simp only[ig]at hz;subst hz;refine jN (x:=.ptr (.box (F e.boxes)) 0) (v:=.agg D7) bD O O O bD (sY) ?_ ?_<;>(simp only[dw,cX];exact dV @rk @and_self)
 refine bh @rk ?_;refine bC.gen λf l qj hp3 hr3=>?_;have q3_0:f.get 0=.v (.bool ah):=by rw[l];exact gA
 have q3_1:f.get 1=.ptr (.box (F h.boxes)) 0:=by rw[l];exact gA
 have q3_2:f.get 2=.list L 2 SU:=by rw[l];exact gA
 have q3_18:f.get 18=z0:=by rw[l];exact gA
 have q3_19:f.get 19=.v (.int .i64 0):=by rw[l];exact gA
 have q3_20:f.get 20=.list .tight 4 X:=by rw[l];exact gA
 have q3_21:f.get 21=.ptr (.box (F e.boxes)) 0:=by rw[l];exact gA
 have q3_22:f.get 22=.v (.int .i64 0):=by rw[l];exact gA
 have q3_23:f.get 23=.v (.int .i64 0):=by rw[l];exact gA
 have q3_25:f.get 25=.v (.int .i64 151):=by rw[l];exact gA
 have q3_d:f.defers=[]:=by rw[qj];exact gA
 clear l qj hp3 hr3 q2_0 q2_1 q2_2 q2_18 q2_19 q2_20 q2_21 q2_22 q2_23 q2_d c12 m3 s10 y2 y7;refine iG [(0,6)] yg bD (λz hz=>?_) ?_
 .simp only[ig]at hz;subst hz;refine jN (x:=.ptr (.box (F e.boxes)) 0) (v:=.agg D7) bD O O O bD (sY) ?_ ?_<;>(simp only[dw,cX];exact dV @rk @and_self)
 refine bh @rk ?_;refine bC.gen λE g rP yX y_=>?_;have q4_0:E.get 0=.v (.bool ah):=by rw[g];exact gA
 have q4_1:E.get 1=.ptr (.box (F h.boxes)) 0:=by rw[g];exact gA
 have q4_2:E.get 2=.list L 2 SU:=by rw[g];exact gA
 have q4_18:E.get 18=z0:=by rw[g];exact gA
 have q4_19:E.get 19=.v (.int .i64 0):=by rw[g];exact gA
 have q4_20:E.get 20=.list .tight 4 X:=by rw[g];exact gA
 have q4_21:E.get 21=.ptr (.box (F e.boxes)) 0:=by rw[g];exact gA
 have q4_22:E.get 22=.v (.int .i64 0):=by rw[g];exact gA
 have q4_23:E.get 23=.v (.int .i64 0):=by rw[g];exact gA
 have q4_25:E.get 25=.v (.int .i64 151):=by rw[g];exact gA
 have q4_27:E.get 27=.v (.int .i64 420):=by rw[g];exact gA
 have q4_d:E.defers=[]:=by rw[rP];exact gA
 clear g rP yX y_ q3_0 q3_1 q3_2 q3_18 q3_19 q3_20 q3_21 q3_22 q3_23 q3_25 q3_d c13 m4 s11 y3 y8 sY;refine du yg bD ?_;refine bh @rk ?_;refine du yg bD ?_;refine bh @rk ?_;refine bC.gen λn d DI M6 D'=>?_;have q5_0:n.get 0=.v (.bool ah):=by rw[d];exact gA
 have q5_1:n.get 1=.ptr (.box (F h.boxes)) 0:=by rw[d];exact gA
 have q5_18:n.get 18=z0:=by rw[d];exact gA
 have q5_19:n.get 19=.v (.int .i64 0):=by rw[d];exact gA
 have q5_22:n.get 22=.v (.int .i64 0):=by rw[d];exact gA
 have q5_23:n.get 23=.v (.int .i64 0):=by rw[d];exact gA
 have q5_25:n.get 25=.v (.int .i64 151):=by rw[d];exact gA
 have q5_27:n.get 27=.v (.int .i64 420):=by rw[d];exact gA
 have q5_29:n.get 29=.v (.int .i64 0):=by rw[d];exact gA
 have q5_31:n.get 31=.v (.int .i64 0):=by rw[d];exact gA
 have q5_33:n.get 33=.v (.int .i64 0):=by rw[d];exact gA
 have q5_34:n.get 34=.v (.int .i64 0):=by rw[d];exact gA
 have q5_35:n.get 35=.ptr (.box (F A.boxes)) 0:=by rw[d];exact gA
 have q5_37:n.get 37=.v (.bool V):=by rw[d];exact gA
 have q5_38:n.get 38=.v (.int .i64 0):=by rw[d];exact gA
 have q5_d:n.defers=[]:=by rw[DI];exact gA
 clear d DI M6 D' q4_0 q4_1 q4_2 q4_18 q4_19 q4_20 q4_21 q4_22 q4_23 q4_25 q4_27 q4_d c14 c15 c16 c17 c18 s12 s13 s14 y4 y5 y6 g5 sl1 sl2 bz2 bz3;refine du yg bD ?_;refine bh @rk ?_;exact⟨_,_,O,O⟩
def LH:List aR:=LG++[8]
noncomputable def OJ:aR->Option (List U->Heap->Option (U × Heap)):=lU SG LH
noncomputable abbrev SH:=whole aa Gt OJ
def Sm:mo OJ LH:=rK
def pT{g}{a b}{y}(c:bN SG g a y)(e:LH.contains g=V)(d:a_ b=a):∀h,SH.call g b h=J (.ret y,h):=bN.use (L:=LH) c e d
def arB:∀h,SH.call 8 [] h=J (.ret (.v (.bool V)),h):=by obtain⟨_,_,b,rfl⟩:=arA ⟨[],[],0,[]⟩;exact bT (L:=LH) O O O b O rfl
def hA(a:CA):CA:=⟨al a.X,al a.Y,al a.C,al a.p,al a.r,al a.n,al a.W,al a.Pa,al a.Z⟩
def GS(a):dG (hA a):=⟨l8 _,l8 _,l8 _,l8 _,l8 _,l8 _,l8 _,l8 _,l8 _⟩
section
variable {c:Ce} {a:CA}
def L_(ok:cA c a):cA c (hA a):=⟨ok.x.fk.1,ok.y.hold.1,ok.cm.hold.1,⟨ok.d.p.hold.1,ok.d.r.hold.1,ok.d.n.hold.1,ok.d.t⟩,ok.w.hold.1,ok.pa.fk.1,ok.z.hold.1⟩
def LZ(c)(a):a_ (aq c a)=aq c (hA a):=by unfold aq aM;rw[vq,vq,yn];simp only[a_];rfl
def Vi{k}(h:bU k=.nil):k=.nil:=by cases k<;>simp_all [bU]
def Ub(ok:cA c a)(f:ol a):ol (hA a):=by
 obtain⟨k,i,e,-⟩:=ok.pa;obtain⟨l,j,ez,-⟩:=ok.z;refine⟨λg d h=>?_,λg d h=>?_⟩
 .have h:al a.Pa=.list .nil g d:=h;rw[e,al,D4]at h;have b:=U.list.inj h;rw[<-b.2.2];exact f.pa i _ (by rw[e,Vi b.1])
 .have h:al a.Z=.list .nil g d:=h;rw[ez,al,Ho]at h;have b:=U.list.inj h;rw[<-b.2.2];exact f.z j _ (by rw[ez,Vi b.1])
def alN(h:c.e_=0):cH c.rows c.ac=0:=by
 unfold Ce.e_ NT.e_ at h;split at h
 .rename_i b;exact absurd h b
 .rename_i b;simpa using b
def arW(h:c.e_=0)(b:F c.ai<=1000000)(h2:F c.doc.pa<=1000000/\F c.doc.rv<=1000000/\F c.doc.nd<=1000000)(d:F c.who<=1000000)(e:F c.bI<=1000000)(f:F c.parts<=1000000):wE c:=by obtain⟨j,k,i,-⟩:=uw (alN h);exact⟨M,by omega,λl g=>by have:=(i l g).2.2.1;omega,b,h2,d,e,f⟩
end
def uA:Tryz.f7.results.toList=[.tmp 10]:=by kernel_rfl
def WB{x}{l}(h:SL x l):dB aa 33 x=J (.v (.int .i64 (F l:Nat))):=by obtain⟨d,e,rfl,-⟩:=h;have b:=mV;unfold dB;simp only[b,uH]
structure xO(D:List U):Prop where
 len:D.length=48
 cells:(U.agg D).bF=J D
def AB{c}{a}(ok:cA c a):xO (aq c a):=⟨ok.len,ok.cells⟩
section
variable {c:Ce} {a:CA}
def aiR(ok:cA c a)(p:Pr):a_ [.agg (aq c a),.agg (aB p)]=[.agg (aq c (hA a)),.agg (aB p)]:=by simp only[a_,al,LZ,EJ]
def aiQ(ok:cA c a)(p:Int × Int):a_ [.agg (aq c a),.agg (aZ p)]=[.agg (aq c (hA a)),.agg (aZ p)]:=by simp only[a_,al,LZ];rfl
def amB{p:Pr}{l:List Pr}(b:dD c=0)(h:fx c p=(0,l)):F l<=F c.bI+1:=by
 unfold fx at h;rw[aL (by simpa using b)]at h;split at h
 .cases h
 .exact(Ix h).2
def amN{p:Int × Int}{l:List (Int × Int)}(b:dD c=0)(h:fB c p=(0,l)):F l<=F c.parts+1:=by
 unfold fB at h;rw[aL (by simpa using b)]at h;split at h
 .cases h
 .split at h
  .cases h
  .exact(Ix h).2
def amE(ok:cA c a)(X:ol a)(i:c.Fit)(q:dD c=0)(g:wE c)(mD:F c.bI<999999)(p o:Pr)(Y:o.aO=p.aO):
 ∃f e C m,xO f/\(∀h,SH.call 16 [.agg (aq c a),.agg (aB p)] h=J (.ret (.tuple [.agg f,I e]),h))/\cE (.agg f) (.agg f)=V/\
  (∀(A:Heap) b,A.boxes[b]?=J f->aD aa Gt A 32 (.ptr (.box b) 46)=J C)/\dB aa 32 C=J (.v (.int .i64 (m:Nat)))/\
  ((e≠0/\∀h,SH.call 13 [.agg f,.agg (aq c0 a0)] h=J (.ret (.v (.bool V)),h))∨
   (e=0/\F c.bI<=m/\∃D2 B t,xO D2/\xO B/\(∀h,SH.call 16 [.agg f,.agg (aB p)] h=J (.ret (.tuple [.agg D2,I 0]),h))/\(∀h,SH.call 16 [.agg f,.agg (aB o)] h=J (.ret (.tuple [.agg B,I t]),h))/\
    (∀h,SH.call 13 [.agg D2,.agg f] h=J (.ret (.v (.bool V)),h))/\(∀h,SH.call 14 [.agg f] h=J (.ret (I 0),h))/\(o=p∨t=151∨t=420))):=by
 obtain⟨D,d,k,L,z0⟩:=yA (L_ ok) (GS a) (Ub ok X) i M p;refine⟨aq (iM c p) D,(fx c p).1,D.Pa,(iM c p).bI.length,AB d,pT z0 O (aiR ok p),Pw d,λA b T=>(gL d T).2.2.2.1,d.pa.dB,?_⟩;by_cases j:(fx c p).1=0
 .right;have n:fx c p=(0,(fx c p).2):=by rw[<-j]
  have s:iM c p={c with bI:=(fx c p).2}:=by unfold iM;rw[av j]
  obtain⟨r1,r2,-⟩:=Oq q n;have R:=amy q n;have DV:=amB q n;rw[s]at d ⊢;have u:Ce.Fit {c with bI:=(fx c p).2}:=⟨i.1,i.2.1,i.2.2.1,i.2.2.2.1,by show(F (fx c p).2)<=_;omega,i.2.2.2.2.2⟩;have sX:wE {c with bI:=(fx c p).2}:=⟨g.rows,g.ac,g.Lp,g.ai,g.doc,g.who,by show(F (fx c p).2)<=_;omega,g.parts⟩;obtain⟨a2,v,h2,-,r⟩:=yA d k L u (by show(F (fx c p).2)<_;omega) p;have S:iM {c with bI:=(fx c p).2} p={c with bI:=(fx c p).2}:=by unfold iM;rw[R];rfl
  rw[S]at v r;rw[R]at r;obtain⟨a3,Z,-,-,N⟩:=yA d k L u (by show(F (fx c p).2)<_;omega) o;have l:=GN v h2 d k sX;have y:=GJ d k u;rw[r1]at y;refine⟨j,r2,_,_,_,AB v,AB Z,pT r O r.held,pT N O N.held,pT l O l.held,pT y O y.held,?_⟩;by_cases E:o=p
  .exact .inl E
  .exact .inr (amD q n Y E)
 .left;have s:iM c p=c0:=by unfold iM;rw[aL j]
  rw[s]at d ⊢;have l:=GN d k fS uc Zc;exact⟨j,pT l O l.held⟩
def amP(ok:cA c a)(X:ol a)(i:c.Fit)(q:dD c=0)(g:wE c)(mD:F c.parts<999999)(p o:Int × Int)(Y:o.1=p.1):
 ∃f e C m,xO f/\(∀h,SH.call 18 [.agg (aq c a),.agg (aZ p)] h=J (.ret (.tuple [.agg f,I e]),h))/\
  (∀(A:Heap) b,A.boxes[b]?=J f->aD aa Gt A 33 (.ptr (.box b) 47)=J C)/\dB aa 33 C=J (.v (.int .i64 (m:Nat)))/\
  ((e≠0/\∀h,SH.call 13 [.agg f,.agg (aq c0 a0)] h=J (.ret (.v (.bool V)),h))∨
   (e=0/\F c.parts<=m/\∃D2 B t,xO D2/\xO B/\(∀h,SH.call 18 [.agg f,.agg (aZ p)] h=J (.ret (.tuple [.agg D2,I 0]),h))/\(∀h,SH.call 18 [.agg f,.agg (aZ o)] h=J (.ret (.tuple [.agg B,I t]),h))/\
    (∀h,SH.call 13 [.agg D2,.agg f] h=J (.ret (.v (.bool V)),h))/\(∀h,SH.call 14 [.agg f] h=J (.ret (I 0),h))/\(o=p∨t=151∨t=400))):=by
 obtain⟨D,d,k,L,z0⟩:=AT (L_ ok) (GS a) (Ub ok X) i M p;refine⟨aq (jx c p) D,(fB c p).1,D.Z,(jx c p).parts.length,AB d,pT z0 O (aiQ ok p),λA b T=>(gL d T).2.2.2.2.1,WB d.z,?_⟩;by_cases j:(fB c p).1=0
 .right;have n:fB c p=(0,(fB c p).2):=by rw[<-j]
  have s:jx c p={c with parts:=(fB c p).2}:=by unfold jx;rw[av j]
  obtain⟨r1,r2,-⟩:=Ot q n;have R:=amM q n;have DV:=amN q n;rw[s]at d ⊢;have u:Ce.Fit {c with parts:=(fB c p).2}:=⟨i.1,i.2.1,i.2.2.1,i.2.2.2.1,i.2.2.2.2.1,by show(F (fB c p).2)<=_;omega⟩;have sX:wE {c with parts:=(fB c p).2}:=⟨g.rows,g.ac,g.Lp,g.ai,g.doc,g.who,g.bI,by show(F (fB c p).2)<=_;omega⟩;obtain⟨a2,v,h2,-,r⟩:=AT d k L u (by show(F (fB c p).2)<_;omega) p;have S:jx {c with parts:=(fB c p).2} p={c with parts:=(fB c p).2}:=by unfold jx;rw[R];rfl
  rw[S]at v r;rw[R]at r;obtain⟨a3,Z,-,-,N⟩:=AT d k L u (by show(F (fB c p).2)<_;omega) o;have l:=GN v h2 d k sX;have y:=GJ d k u;rw[r1]at y;refine⟨j,r2,_,_,_,AB v,AB Z,pT r O r.held,pT N O N.held,pT l O l.held,pT y O y.held,?_⟩;by_cases E:o=p
  .exact .inl E
  .exact .inr (amO q n Y E)
 .left;have s:jx c p=c0:=by unfold jx;rw[aL j]
  rw[s]at d ⊢;have l:=GN d k fS uc Zc;exact⟨j,pT l O l.held⟩
end
def ast{H}{b}{p}{x}(d:H.boxes[b]?=J (aB p)):bV aa H 3 (.ptr (.box b) 0) (.v (.int .i64 x))=J (H.put b (aB {p with aO:=x})):=by rw[fC (off:=0) (cs:=aB p) (xs:=[.v (.int .i64 x)]) O eX d O (by decide:0+1<=4)];rfl
def asu{H}{b}{p}{x}(d:H.boxes[b]?=J (aZ p)):bV aa H 3 (.ptr (.box b) 0) (.v (.int .i64 x))=J (H.put b (aZ (x,p.2))):=by rw[fC (off:=0) (cs:=aZ p) (xs:=[.v (.int .i64 x)]) O eX d O (by decide:0+1<=2)];rfl
def aks(h:Heap)(c:Ce)(a:CA)(p o:Pr)(q b:Int × Int)(ok:cA c a)(Y:ol a):
 ∃r h',SH.call 7 [.agg (aq c a),.agg (aB p),.agg (aB o),.agg (aZ q),.agg (aZ b)] h=J (r,h')/\r=.ret (.v (.bool V)):=by
 have d:=arB;have n:=L_ ok;have m:a_ [.agg (aq c a)]=[.agg (aq c (hA a))]:=by simp only[a_,al,LZ]
 obtain⟨b2,A,f10⟩:=ahg n (GS a);have c10:=pT f10 O m;have bc:=ok.cells;have bp:=rg p;have bo:=rg o;have bq:=rh q;have ba:=rh b;have z35:=wi;obtain⟨H,s⟩:∃H,((((h.push (aq c a)).push (aB p)).push (aB o)).push (aZ q)).push (aZ b)=H:=⟨_,O⟩;have n1:=bE h (aq c a);have n2:F ((h.push (aq c a)).push (aB p)).boxes=F h.boxes+2:=by rw[bE,bE]
 have n3:F (((h.push (aq c a)).push (aB p)).push (aB o)).boxes=F h.boxes+3:=by rw[bE,n2]
 have n4:F ((((h.push (aq c a)).push (aB p)).push (aB o)).push (aZ q)).boxes=F h.boxes+4:=by rw[bE,n3]
 have n5:F H.boxes=F h.boxes+5:=by rw[<-s,bE,n4]
 have t0:H.boxes[h.boxes.length]?=J (aq c a):=by rw[<-s];exact aN (aN (aN (aN (aK _ _))))
 have t1:H.boxes[F h.boxes+1]?=J (aB p):=by rw[<-s];refine aN (aN (aN ?_));have:=aK (h.push (aq c a)) (aB p);rwa [n1]at this
 have t2:H.boxes[F h.boxes+2]?=J (aB o):=by rw[<-s];refine aN (aN ?_);have:=aK ((h.push (aq c a)).push (aB p)) (aB o);rwa [n2]at this
 have t3:H.boxes[F h.boxes+3]?=J (aZ q):=by rw[<-s];refine aN ?_;have:=aK (((h.push (aq c a)).push (aB p)).push (aB o)) (aZ q);rwa [n3]at this
 have t4:H.boxes[F h.boxes+4]?=J (aZ b):=by rw[<-s];have:=aK ((((h.push (aq c a)).push (aB p)).push (aB o)).push (aZ q)) (aZ b);rwa [n4]at this
 have l0:=io ok.len t0;cases b2 with
 |false=>
  clear ok n m A f10 t0 t1 t2 t3 t4 Y;generalize aq c a=DC at *
  generalize aB p=R1 at *
  generalize aB o=R2 at *
  generalize aZ q=R3 at *
  generalize aZ b=R4 at *
  refine bL O Am O ?_;refine cK @uA @bg @s ?_;exact⟨_,_,O,O⟩
 |true=>
 obtain⟨u1,u2,u3,u4,u5,u6,u7,u8,u9⟩:=A O;have S:c.Fit:=⟨M,by omega,by omega,⟨M,by omega,by omega⟩,by omega,by omega⟩;have c15:=pT (ahh n (GS a) S) O m;by_cases C:dD c=0;rotate_left 1
 .have dc:decide (dD c=0)=ah:=b7 C;clear ok n m A f10 t0 t1 t2 t3 t4 Y S u1 u2 u3 u4 u5 u6 u7 u8 u9 C;generalize aq c a=DC at *
  generalize aB p=R1 at *
  generalize aB o=R2 at *
  generalize aZ q=R3 at *
  generalize aZ b=R4 at *
  generalize dD c=z0 at *
  unfold I at *
  refine bL O Am O ?_;refine cK @uA @bg @s ?_;exact⟨_,_,O,O⟩
 rw[C]at c15;have sc:=arW (yk.1 C).1 M ⟨M,by omega,by omega⟩ M M M;obtain⟨D1,eP,PX,mP,k,c16,sD1,lPX,lnX,hP⟩:=amE ok Y S C sc M p {o with aO:=p.aO} rfl;obtain⟨E1,eQ,PZ,mQ,l,c18,lPZ,lnZ,hQ⟩:=amP ok Y S C sc M q (q.1,b.2) O;obtain⟨R,e⟩:∃R,H.put (F h.boxes+2) (aB {o with aO:=p.aO})=R:=⟨_,O⟩;obtain⟨i,f⟩:∃i,R.put (F h.boxes+4) (aZ (q.1,b.2))=i:=⟨_,O⟩;have v1:bV aa H 3 (.ptr (.box (F h.boxes+2)) 0) (.v (.int .i64 p.aO))=J R:=by rw[<-e];exact ast t2
 have w4:R.boxes[F h.boxes+4]?=J (aZ b):=by rw[<-e,cd M];exact t4
 have v2:bV aa R 3 (.ptr (.box (F h.boxes+4)) 0) (.v (.int .i64 q.1))=J i:=by rw[<-f];exact asu w4
 have B:i.boxes[h.boxes.length]?=J (aq c a):=by rw[<-f,cd M,<-e,cd M];exact t0
 have x1:i.boxes[F h.boxes+1]?=J (aB p):=by rw[<-f,cd M,<-e,cd M];exact t1
 have x2:i.boxes[F h.boxes+2]?=J (aB {o with aO:=p.aO}):=by rw[<-f,cd M,<-e];exact dh M
 have x3:i.boxes[F h.boxes+3]?=J (aZ q):=by rw[<-f,cd M,<-e,cd M];exact t3
 have L:i.boxes[F h.boxes+4]?=J (aZ (q.1,b.2)):=by rw[<-f];exact dh (by rw[<-e,je];omega)
 have k1:=(Er t1).1;have k3:=(vG t3).1;have k3b:aD aa Gt R 3 (.ptr (.box (F h.boxes+3)) 0)=J (I q.1):=(vG (by rw[<-e,cd M];exact t3:R.boxes[F h.boxes+3]?=J (aZ q))).1;have f46:=Gu;have f48:=Dg;have f35:=py;have be:=P';have m0:=io ok.len B;have m1:=jZ x1;have sK:cE (.v (.int .i64 q.1)) (.v (.int .i64 q.1))=V:=by simp[cE,gF]
 have lcP:=λ(z4:Heap) (X:z4.boxes[h.boxes.length]?=J (aq c a))=>(gL ok X).2.2.2.1;have lcZ:=λ(z4:Heap) (X:z4.boxes[h.boxes.length]?=J (aq c a))=>(gL ok X).2.2.2.2.1;have lc0:=λ(z4:Heap) (X:z4.boxes[h.boxes.length]?=J (aq c a))=>io ok.len X;have lnC:=ok.pa.dB;have lnD:=WB ok.z;obtain⟨j,y⟩:∃j,i.push D1=j:=⟨_,O⟩;have v3:bV aa (i.push (aq c0 a0)) 35 (.ptr (.box (F i.boxes)) 0) (.agg D1)=J j:=by rw[<-y];exact oX k.len k.cells
 have g:∀{N:Nat} {d:List U},i.boxes[N]?=J d->j.boxes[N]?=J d:=λq=>by rw[<-y];exact aN q
 have y0:j.boxes[i.boxes.length]?=J D1:=by rw[<-y];exact aK _ _
 have d1:=io k.len y0;refine bL O Am O ?_;refine YW 6 (λz0 K=>z0.get 5=.ptr (.box (F h.boxes)) 0/\z0.get 8=.ptr (.box (F h.boxes+3)) 0/\z0.get 9=.ptr (.box (F h.boxes+4)) 0/\z0.defers=[]/\ae (K.boxes[h.boxes.length]?=J (aq c a)/\K.boxes[F h.boxes+3]?=J (aZ q)/\K.boxes[F h.boxes+4]?=J (aZ (q.1,b.2)))) ?_ ?_
 .intro N X;have kb:=ae.mk X;clear X c18 lPZ lnZ hQ l;rcases hP with⟨Um,c13p⟩|⟨rfl,hPm,D2,D3,eO,cD2,cD3,c16b,c16c,c13p,c14p,Un⟩
  .skip
   have dP:decide (eP=0)=ah:=b7 Um;have base:True:=trivial;have kM:ae (j.boxes[h.boxes.length]?=J (aq c a)/\j.boxes[F h.boxes+3]?=J (aZ q)/\j.boxes[F h.boxes+4]?=J (aZ (q.1,b.2))):=⟨(g B),(g x3),(g L)⟩;clear ok n m A f10 t0 t1 t2 t3 t4 Y S u1 u2 u3 u4 u5 u6 u7 u8 u9 sc C k lPX w4 B x1 x2 x3 L lcP lcZ lc0 e f y g y0 n5 Um;generalize aq c a=DC at *
   generalize aq c0 a0=Z0 at *
   generalize aB {o with aO:=p.aO}=R5 at *
   generalize aZ (q.1,b.2)=R6 at *
   generalize aB p=R1 at *
   generalize aB o=R2 at *
   generalize aZ q=R3 at *
   generalize aZ b=R4 at *
   generalize p.aO=kp at *
   generalize q.1=kq at *
   unfold I at *
   repeat' (first|simp(maxSteps:=9999999) (disch:=first|exact dZ|fail) only[gW,reduceIte,aH,aC,uA,bg,s,Code.xy, *]|refine dX ?_ ?_<;>(intro _;try omega))
   refine iG [(3,5)] Sm bD (λz hz=>?_) ?_
   .simp only[ig]at hz;subst hz;refine jN (x:=.ptr (.box (F h.boxes+3)) 0) (v:=.v (.int .i64 kq)) bD O O O bD (sK) ?_ ?_<;>(simp only[dw,cX];exact dV @uA @and_self)
   repeat' (first|simp(maxSteps:=9999999) (disch:=first|exact dZ|fail) only[gW,reduceIte,aH,aC,uA, *]|refine dX ?_ ?_<;>(intro _;try omega))
   all_goals (
    first
     |(refine kb.out _ _ ⟨?_,?_,?_,?_,kM⟩<;>(simp only[gW,reduceIte,aH,aC];done))
     |(have hO:=kO.out;exfalso;simp_all;done))
  .skip
   obtain⟨D,qV⟩:∃D,j.push D2=D:=⟨_,O⟩;obtain⟨E,qg⟩:∃E,D.push D3=E:=⟨_,O⟩;have v4:bV aa (j.push (aq c0 a0)) 35 (.ptr (.box (F j.boxes)) 0) (.agg D2)=J D:=(by rw[<-qV];exact oX cD2.len cD2.cells);have v5:bV aa (D.push (aq c0 a0)) 35 (.ptr (.box (F D.boxes)) 0) (.agg D3)=J E:=(by rw[<-qg];exact oX cD3.len cD3.cells);have t:∀{N:Nat} {d:List U},j.boxes[N]?=J d->D.boxes[N]?=J d:=λq=>(by rw[<-qV];exact aN q);have u:∀{N:Nat} {d:List U},D.boxes[N]?=J d->E.boxes[N]?=J d:=λq=>(by rw[<-qg];exact aN q);have y1:D.boxes[j.boxes.length]?=J D2:=(by rw[<-qV];exact aK _ _);have r1:=jZ (g x1);have r2:=jZ (t (g x2));have d2:=io k.len (t y0);have d3:=io k.len (u (t y0));have d4:=io cD2.len (u y1);have p1:=lPX E _ (u (t y0));have p2:=lcP E (u (t (g B)));have r3:=jZ (u (t (g x2)));have r4:=jZ (u (t (g x1)));have eqO:=λx z5=>W_ (x:=x) (y:=z5) {o with aO:=p.aO} p;have di:decide ((mP:Int)<(F c.bI:Int))=ah:=b7 M;have kO:ae ((!decide ({o with aO:=p.aO}=p)&& !decide (eO=151)&& !decide (eO=420))=ah):=⟨by rcases Un with z|z|z<;>simp[z]⟩;have kM:ae (E.boxes[h.boxes.length]?=J (aq c a)/\E.boxes[F h.boxes+3]?=J (aZ q)/\E.boxes[F h.boxes+4]?=J (aZ (q.1,b.2))):=⟨(u (t (g B))),(u (t (g x3))),(u (t (g L)))⟩;clear ok n m A f10 t0 t1 t2 t3 t4 Y S u1 u2 u3 u4 u5 u6 u7 u8 u9 sc C k lPX w4 B x1 x2 x3 L lcP lcZ lc0 e f y g y0 n5 hPm cD2 cD3 Un qV qg t u y1;generalize aq c a=DC at *
   generalize aq c0 a0=Z0 at *
   generalize decide ({o with aO:=p.aO}=p)=ub at *
   generalize aB {o with aO:=p.aO}=R5 at *
   generalize aZ (q.1,b.2)=R6 at *
   generalize aB p=R1 at *
   generalize aB o=R2 at *
   generalize aZ q=R3 at *
   generalize aZ b=R4 at *
   generalize p.aO=kp at *
   generalize q.1=kq at *
   unfold I at *
   repeat' (first|simp(maxSteps:=9999999) (disch:=first|exact dZ|fail) only[gW,reduceIte,aH,aC,uA,bg,s,Code.xy, *]|refine dX ?_ ?_<;>(intro _;try omega))
   refine iG [(3,5)] Sm bD (λz hz=>?_) ?_
   .simp only[ig]at hz;subst hz;refine jN (x:=.ptr (.box (F h.boxes+3)) 0) (v:=.v (.int .i64 kq)) bD O O O bD (sK) ?_ ?_<;>(simp only[dw,cX];exact dV @uA @and_self)
   repeat' (first|simp(maxSteps:=9999999) (disch:=first|exact dZ|fail) only[gW,reduceIte,aH,aC,uA, *]|refine dX ?_ ?_<;>(intro _;try omega))
   all_goals (
    first
     |(refine kb.out _ _ ⟨?_,?_,?_,?_,kM⟩<;>(simp only[gW,reduceIte,aH,aC];done))
     |(have hO:=kO.out;exfalso;simp_all;done))
 rintro z0 K ⟨u,g8,g9,hd,kM⟩;obtain⟨B,x3,L⟩:=kM.out;simp only[Code.tl];clear kM c16 lPX lnX hP k d c10 c15 l0 v1 v2 v3 d1 k1 k3 k3b m0 m1 w4 sD1 bp bo bq ba bc n1 n2 n3 n4;obtain⟨K1,T⟩:∃K1,K.push E1=K1:=⟨_,O⟩;have z1:bV aa (K.push (aq c0 a0)) 35 (.ptr (.box (F K.boxes)) 0) (.agg E1)=J K1:=by rw[<-T];exact oX l.len l.cells
 have i1:∀{N:Nat} {d:List U},K.boxes[N]?=J d->K1.boxes[N]?=J d:=λq=>by rw[<-T];exact aN q
 have j0:K1.boxes[K.boxes.length]?=J E1:=by rw[<-T];exact aK _ _
 have b0:=lc0 K B;have b3:=pM x3;have e1:=io l.len j0;rcases hQ with⟨Up,c13q⟩|⟨rfl,hQm,E2,E3,eR,cE2,cE3,c18b,c18c,c13q,c14q,Uq⟩
 .skip
  have dQ:decide (eQ=0)=ah:=b7 Up;clear ok n m A f10 t0 t1 t2 t3 t4 Y S u1 u2 u3 u4 u5 u6 u7 u8 u9 sc C l lPZ B x1 x2 x3 L lcP lcZ lc0 s e f y g y0 i1 j0 T n5 Up;generalize aq c a=DC at *
  generalize aq c0 a0=Z0 at *
  generalize aZ (q.1,b.2)=R6 at *
  generalize aZ q=R3 at *
  unfold I at *
  repeat' (first|simp(maxSteps:=9999999) (disch:=first|exact dZ|fail) only[gW,reduceIte,aH,aC,uA, *]|refine dX ?_ ?_<;>(intro _;try omega))
  all_goals exact⟨_,_,O,O⟩
 .skip
  obtain⟨K2,GX⟩:∃K2,K1.push E2=K2:=⟨_,O⟩;obtain⟨K3,Mc⟩:∃K3,K2.push E3=K3:=⟨_,O⟩;have z2:bV aa (K1.push (aq c0 a0)) 35 (.ptr (.box (F K1.boxes)) 0) (.agg E2)=J K2:=by rw[<-GX];exact oX cE2.len cE2.cells
  have z3:bV aa (K2.push (aq c0 a0)) 35 (.ptr (.box (F K2.boxes)) 0) (.agg E3)=J K3:=by rw[<-Mc];exact oX cE3.len cE3.cells
  have Z:∀{N:Nat} {d:List U},K1.boxes[N]?=J d->K2.boxes[N]?=J d:=λq=>by rw[<-GX];exact aN q
  have i3:∀{N:Nat} {d:List U},K2.boxes[N]?=J d->K3.boxes[N]?=J d:=λq=>by rw[<-Mc];exact aN q
  have j1:K2.boxes[K1.boxes.length]?=J E2:=by rw[<-GX];exact aK _ _
  have e2:=io l.len (Z j0);have e3:=io l.len (i3 (Z j0));have e4:=io cE2.len (i3 j1);have s1:=pM (i1 x3);have s2:=pM (Z (i1 L));have s3:=pM (i3 (Z (i1 x3)));have s4:=pM (i3 (Z (i1 L)));have s5:=lPZ K3 _ (i3 (Z j0));have s6:=lcZ K3 (i3 (Z (i1 B)));have eqA:=λx z5=>Tq (x:=x) (y:=z5) (q.1,b.2) q;have oL:decide ((mQ:Int)>=(F c.parts:Int))=V:=bQ M;have kA:ae ((decide ((q.1,b.2)=q)||decide (eR=151)||decide (eR=400))=V):=⟨by rcases Uq with z|z|z<;>simp[z]⟩;clear ok n m A f10 t0 t1 t2 t3 t4 Y S u1 u2 u3 u4 u5 u6 u7 u8 u9 sc C l lPZ B x1 x2 x3 L lcP lcZ lc0 s e f y g y0 i1 j0 T n5 hQm cE2 cE3 Uq Z i3 j1 GX Mc;generalize aq c a=DC at *
  generalize aq c0 a0=Z0 at *
  generalize decide ((q.1,b.2)=q)=ua at *
  generalize aZ (q.1,b.2)=R6 at *
  generalize aZ q=R3 at *
  unfold I at *
  repeat' (first|simp(maxSteps:=9999999) (disch:=first|exact dZ|fail) only[gW,reduceIte,aH,aC,uA, *]|refine dX ?_ ?_<;>(intro _;try omega))
  all_goals (
   first
    |exact⟨_,_,O,O⟩
    |(have hA2:=kA.out;exfalso;simp_all;done)
    |(have hA2:=kA.out;refine⟨_,_,O,?_⟩;simp_all;done))
end Go.Proofs.YtcbhpkjbiehcpaaGreatDoor
end
section
namespace Go.Proofs.YtcbhpkjbiehcpaaGreatDoor
open Go.AE Go.NT Go.RowKit
def arJ:ownKnob aa.godebug=ag:=am
def arH:(aa.funcs.all λfn=>match fn.body with|some c=>codeOk fn.ntmps c|none=>V)=V:=am
def arI : (aa.funcs.all λfn => !(fn.name == "runtime.NumGoroutine")) = V := am
def nJ:Prog aa:=⟨λe b h=>by
 have:=Fz.1 arI b (aaf h);simpa using this,am,λe b c h d=>by
 have:=Fz.1 arH b (aaf h);simpa [d] using this⟩
def nW:∀g cs,Gt g=J cs->aA 0 0 0 cs=V:=by
 intro g cs h;unfold Gt at h;split at h
 .injection h with h;subst h;kernel_rfl
 .split at h
  .injection h with h;subst h;kernel_rfl
  .split at h
   .injection h with h;subst h;rfl
   .cases h
noncomputable def adY(L:List aR):Bool:=L.all λd=>match aa.funcs[d]? with|some b=>b.body.isSome|none=>ah
def lT{L}(h:adY L=V):∀g∈L,∃fn,aa.funcs[g]?=J fn/\fn.body.isSome=V:=by
 intro g d;have:=eJ.1 h g d;split at this
 .rename_i fn b;exact⟨fn,b,this⟩
 .cases this
def nN(p:aR->Option (List U->Heap->Option (U × Heap))):Prop:=∀e b d,p b=J d->kJ aa Gt e b d
def am4:nN aJ:=λb d e h=>by cases h
def am5:nN OC:=rJ nJ nW am4 (lT am)
def am6:nN OD:=rJ nJ nW am5 (lT am)
def am7:nN OE:=rJ nJ nW am6 (lT am)
def am8:nN BP:=rJ nJ nW am7 (lT am)
def am9:nN BQ:=alx nJ nW am8 (lT am) (lT am)
def ana:nN OF:=rJ nJ nW am9 (lT am)
def Fj:List Int:=NT.start.map λb=>((b.toNat:Nat):Int)
def EF:List Int:=NT.Bs.map λ(b:Nat)=>(b:Int)
def ZT{K}{l:List Int}:aI K (l.map λn=>U.v (.int .u32 n)) (l.map λn=>Value.int .u32 n):=by
 induction l with
 |nil=>exact .nil|cons n l b=>exact .cons _ _ _ _ (.v _ O) b
def ahM{W}(h:laidMetH aa Rows.ceremonySpecRow.laid W):∀g cs,Gt g=J cs->∃cells,aI (aW.init W) cs cells/\∀(j:Nat) (c:aG),cells[j]?=J c->W.cell? ⟨g,j,ag⟩=J c:=by
 rw[MakeChecks.laidMetH_plain _ _ _ am]at h;have o:(Lib.tabData .u32 Fj:DataW Unit)=Rows.laid_signatory_digest_start:=am;have p:(Lib.tabData .u32 EF:DataW Unit)=Rows.laid_signatory_digest_numbers:=am;intro g cs b;unfold Gt at b;split at b
 .rename_i l;injection b with b;subst b;subst l;have n := Lib.tabIs_of_head (n := 8) (g := 0) (t := 256) (e := 69) (zs := Fj) (k := .u32) (name := "signatory/digest.start") am am am am am am (by rw [o]; exact h);refine⟨Fj.map λi=>Value.int .u32 i,?_,λj c d=>?_⟩
  .have:PI=Fj.map λi=>U.v (.int .u32 i):=(by unfold PI Fj bM;rw[Ad];rfl);rw[this];exact ZT
  .rw[ec,dg]at d;obtain⟨i,f,rfl⟩:=d;have m:=(aT.1 f).1;rw[n.cell am j m,eK,f];rfl
 .split at b
  .rename_i _ l;injection b with b;subst b;subst l;have n := Lib.tabIs_of_head (n := 64) (g := 1) (t := 266) (e := 69) (zs := EF) (k := .u32) (name := "signatory/digest.numbers") am am am am am am (by rw [p]; exact h.tail);refine⟨EF.map λi=>Value.int .u32 i,?_,λj c d=>?_⟩
   .have:EE=EF.map λi=>U.v (.int .u32 i):=(by unfold EE EF;rw[Ad];rfl);rw[this];exact ZT
   .rw[ec,dg]at d;obtain⟨i,f,rfl⟩:=d;have m:=(aT.1 f).1;rw[n.cell am j m,eK,f];rfl
  .split at b
   .injection b with b;subst b;exact⟨[],.nil,λj c d=>by simp at d⟩
   .cases b
section
variable {H:Type}
def yi:aa.cellsOf 3=1:=am
def cc5:aa.cellsOf 5=1:=am
def aeF:aa.cellsOf 22=1:=am
def C_:aa.cellsOf 23=1:=am
def aeG:aa.cellsOf 25=2:=am
def as2:uL aa 25 [(22,0),(23,1)]=V:=am
def yG{cs:List U}{d:DataW H}(h:Has aa 23 cs d):∃x l,cs=[x]/\IL x l:=by
 obtain⟨k,b,rfl,j,-,-,f⟩:=h.Cj cU;obtain⟨l,rfl⟩:∃l:List Int,b=l.map vz:=O1 λn i=>by obtain⟨-,d,e⟩:=f n i;obtain⟨m,g,-⟩:=e.lm jF;exact⟨m,g⟩
 exact⟨_,l,O,k,_,O,λ_=>yi⟩
def ah8{cs:List U}{d:DataW H}(h:Has aa 22 cs d):∃x rows,cs=[x]/\RL x rows:=by
 obtain⟨u,b,rfl,q,-,-,m⟩:=h.Cj gy;have j:∀g∈b,∃x o,g=[x]/\IL x o:=λg e=>by obtain⟨-,d,p⟩:=m g e;exact yG p
 clear q m;have n:∀b:List (List U),(∀g∈b,∃x o,g=[x]/\IL x o)->∃(f:List U) (rows:List (List Int)),b=f.map (λa=>[a])/\F f=F rows/\∀(l:Nat) (a:U) (g:List Int),f[l]?=J a->rows[l]?=J g->IL a g:=by
  intro b
  induction b with
  |nil=>intro _;exact⟨[],[],O,O,λl a g i=>by simp at i⟩|cons t b s=>
   intro j;obtain⟨x,o,rfl,r⟩:=j t gH;obtain⟨f,rows,rfl,k,h2⟩:=s λg e=>j g (gx _ e);refine⟨x::f,o::rows,O,by simp[k],λl a g i e=>?_⟩;cases l with|zero=>simp at i e;subst i;subst e;exact r|succ l=>exact h2 l a g (by simpa using i) (by simpa using e)
 obtain⟨f,rows,rfl,k,h2⟩:=n b j;exact⟨_,rows,O,u,_,f,O,λ_=>C_,k,h2⟩
end
def anb:nN Iu:=rJ nJ nW ana (lT am)
def anc:nN OG:=rJ nJ nW anb (lT am)
def ane:nN OH:=rJ nJ nW anc (lT am)
def anf:nN BR:=rJ nJ nW ane (lT am)
def ang:nN me:=H7 nJ nW anf (lT am) (λb h=>absurd O h) ND
def anh:nN Iv:=H7 nJ nW ang (lT am) (λd h=>by
 unfold ZD at h;split at h
 .rename_i b;subst b;exact lT (L:=[16]) am _ (.head _)
 .split at h
  .rename_i b;subst b;exact lT (L:=[18]) am _ (.head _)
  .exact absurd O h) ND
def XT:nN Iw:=H7 nJ nW anh (lT am) (λb h=>absurd O h) ND
def ani:nN XW:=H7 nJ nW XT (lT am) (λb h=>absurd O h) λe b f h=>by
 unfold qF at h;split at h
 .rename_i d;injection h with h;subst h;simp only[Bool.or_eq_true]at d;have d:b=60∨b=61:=d.imp lN lN;refine ag1 nJ nW XT (lT (L:=[60,61]) am b ?_) e;rcases d with rfl|rfl
  .exact .head _
  .exact .tail _ (.head _)
 .cases h
def anj:nN OI:=rJ nJ nW ani (lT am)
def ank:nN OJ:=rJ nJ nW anj (lT am)
section
variable {H:Type}
def Sw:aa.cellsOf 27=4:=am
def Sx:aa.cellsOf 29=32:=am
def Sy:aa.cellsOf 31=41:=am
def aeH:aa.cellsOf 32=1:=am
def aeI:aa.cellsOf 33=1:=am
def aeJ:aa.cellsOf 35=48:=am
def Lg:aa.cellsOf 46=4:=am
def Lh:aa.cellsOf 48=2:=am
def as3:uL aa 27 [(3,0),(25,1),(23,3)]=V:=am
def as4:uL aa 31 [(3,0),(3,1),(3,2),(3,3),(3,4),(3,5),(23,6),(23,7),(23,8),(29,9)]=V:=am
def as5:uL aa 35 [(27,0),(31,4),(23,45),(32,46),(33,47)]=V:=am
def ZE:uL aa 46 [(3,0),(3,1),(3,2),(3,3)]=V:=am
def ZF:uL aa 48 [(3,0),(3,1)]=V:=am
def HU{l:List U}(h:F l=4):∃a b c d,l=[a,b,c,d]:=by
 match l,h with
 | [a,b,c,d],_=>exact⟨a,b,c,d,O⟩
def vI{l:List U}{n}(h:F l=n+1):∃a r,l=a::r/\F r=n:=by
 match l,h with
 |a::r,h=>exact⟨a,r,O,by simpa using h⟩
def ah6{cs:List U}{d:DataW H}(h:Has aa 27 cs d):∃ep r s C rows ac b,cs=aM ep r s C/\RL r rows/\IL s ac/\IL C b:=by obtain⟨l,f⟩:=h.fields as3;rw[Sw]at l;obtain⟨a,B,c,D,rfl⟩:=HU l;obtain⟨_,o⟩:=f 0 3 0 O;obtain⟨_,p⟩:=f 1 25 1 O;obtain⟨_,q⟩:=f 2 23 3 O;rw[yi]at o;rw[aeG]at p;rw[C_]at q;obtain⟨y,e⟩:=p.fields as2;obtain⟨_,m⟩:=e 0 22 0 O;obtain⟨_,n⟩:=e 1 23 1 O;rw[aeF]at m;rw[C_]at n;obtain⟨A,g,-⟩:=o.lm jF;obtain⟨r,rows,i,u⟩:=ah8 m;obtain⟨s,ac,j,v⟩:=yG n;obtain⟨C,b,k,t⟩:=yG q;simp at g i j k;subst g;subst i;subst j;subst k;exact⟨A,_,_,_,rows,ac,b,O,u,v,t⟩
def Se:∀xs:List U,(∀i,i<F xs->∃b:UInt8,(xs.drop i).take 1=[fJ b])->∃l:List UInt8,xs=l.map fJ
 | [],_=>⟨[],O⟩
 |x::xs,h=>by obtain⟨b,d⟩:=h 0 b8;obtain⟨l,rfl⟩:=Se xs λi e=>h (i+1) (by simpa using e);simp at d;exact⟨b::l,by rw[d];rfl⟩
def ah9{cs:List U}{d:DataW H}(h:Has aa 29 cs d):∃l:List UInt8,cs=l.map fJ/\F l=32:=by
 have e:=KE;cases h with
 |bool b=>rw[e]at b;cases b
 |int b=>rw[e]at b;cases b
 |str b=>rw[e]at b;cases b
 |none b=>rw[e]at b;cases b
 |list b=>rw[e]at b;cases b
 |struct b=>rw[e]at b;cases b
 |array b s g f q k=>
  rw[e]at b;injection b with b;injection b with i h2;subst i;subst h2;rw[Sx]at f;obtain⟨l,m⟩:=Se cs λn r=>by have o:=k n g[n] (aP M);rw[cc5,jS]at o;obtain⟨p,j⟩:=o.P5 am;exact⟨p,j⟩
  exact⟨l,m,by rw[m,br]at f;exact f⟩
def ah5{cs:List U}{d:DataW H}(h:Has aa 31 cs d):∃D p r n,cs=bj D p r n/\lL D p r n:=by obtain⟨s,b⟩:=h.fields as4;rw[Sy]at s;obtain⟨x0,c0,rfl,Y⟩:=vI s;obtain⟨x1,c1,rfl,Z⟩:=vI Y;obtain⟨x2,c2,rfl,k2⟩:=vI Z;obtain⟨x3,c3,rfl,k3⟩:=vI k2;obtain⟨x4,c4,rfl,k4⟩:=vI k3;obtain⟨x5,c5,rfl,k5⟩:=vI k4;obtain⟨x6,c6,rfl,k6⟩:=vI k5;obtain⟨x7,c7,rfl,k7⟩:=vI k6;obtain⟨x8,c8,rfl,k8⟩:=vI k7;obtain⟨_,t⟩:=b 0 3 0 O;obtain⟨_,u⟩:=b 1 3 1 O;obtain⟨_,v⟩:=b 2 3 2 O;obtain⟨_,y⟩:=b 3 3 3 O;obtain⟨_,A⟩:=b 4 3 4 O;obtain⟨_,B⟩:=b 5 3 5 O;obtain⟨_,C⟩:=b 6 23 6 O;obtain⟨_,E⟩:=b 7 23 7 O;obtain⟨_,L⟩:=b 8 23 8 O;obtain⟨_,N⟩:=b 9 29 9 O;rw[yi]at t u v y A B;rw[C_]at C E L;rw[Sx]at N;obtain⟨n0,f,-⟩:=t.lm jF;obtain⟨n1,g,-⟩:=u.lm jF;obtain⟨n2,i,-⟩:=v.lm jF;obtain⟨n3,j,-⟩:=y.lm jF;obtain⟨n4,k,-⟩:=A.lm jF;obtain⟨n5,l,-⟩:=B.lm jF;obtain⟨p,pa,m,S⟩:=yG C;obtain⟨r,rv,o,T⟩:=yG E;obtain⟨n,nd,q,R⟩:=yG L;obtain⟨tx,e,X⟩:=ah9 N;simp only[gG,tf,dw,cX,List.cons.injEq,and_true]at f g i j k l m o q e;rw[ga (abh k8)]at e;subst f;subst g;subst i;subst j;subst k;subst l;subst m;subst o;subst q;subst e;exact⟨⟨n0,n1,n2,n3,n4,n5,pa,rv,nd,tx⟩,_,_,_,O,S,T,R,X⟩
def ah7{es:List (List U)}(q:∀r∈es,F r=aa.cellsOf 46/\∃d:DataW H,Has aa 46 r d):∃l:List Pr,es=l.map aB:=O1 λr s=>by obtain⟨-,d,p⟩:=q r s;obtain⟨j,b⟩:=p.fields ZE;rw[Lg]at j;obtain⟨a,A,c,B,rfl⟩:=HU j;obtain⟨_,k⟩:=b 0 3 0 O;obtain⟨_,m⟩:=b 1 3 1 O;obtain⟨_,n⟩:=b 2 3 2 O;obtain⟨_,o⟩:=b 3 3 3 O;rw[yi]at k m n o;obtain⟨t,e,-⟩:=k.lm jF;obtain⟨u,f,-⟩:=m.lm jF;obtain⟨v,g,-⟩:=n.lm jF;obtain⟨y,i,-⟩:=o.lm jF;simp at e f g i;subst e;subst f;subst g;subst i;exact⟨⟨t,u,v,y⟩,O⟩
def Uz{x:U}{d:DataW H}(h:jD aa 46 x d):∃p:Pr,x=.agg (aB p):=by obtain⟨t,rfl,j,b⟩:=h.fields ZE;rw[Lg]at j;obtain⟨a,u,c,v,rfl⟩:=HU j;obtain⟨_,k⟩:=b 0 3 0 O;obtain⟨_,l⟩:=b 1 3 1 O;obtain⟨_,m⟩:=b 2 3 2 O;obtain⟨_,n⟩:=b 3 3 3 O;rw[yi]at k l m n;obtain⟨o,e,-⟩:=k.lm jF;obtain⟨q,f,-⟩:=l.lm jF;obtain⟨r,g,-⟩:=m.lm jF;obtain⟨s,i,-⟩:=n.lm jF;simp at e f g i;subst e;subst f;subst g;subst i;exact⟨⟨o,q,r,s⟩,O⟩
def aia{r:List U}{d:DataW H}(k:Has aa 48 r d):∃q:Int × Int,r=aZ q:=by obtain⟨g,f⟩:=k.fields ZF;rw[Lh]at g;obtain⟨a,n,rfl⟩:=NV g;obtain⟨_,i⟩:=f 0 3 0 O;obtain⟨_,j⟩:=f 1 3 1 O;rw[yi]at i j;obtain⟨l,b,-⟩:=i.lm jF;obtain⟨m,e,-⟩:=j.lm jF;simp at b e;subst b;subst e;exact⟨(l,m),O⟩
def Uy{x:U}{d:DataW H}(h:jD aa 48 x d):∃q:Int × Int,x=.agg (aZ q):=by obtain⟨m,rfl,g,f⟩:=h.fields ZF;rw[Lh]at g;obtain⟨a,n,rfl⟩:=NV g;obtain⟨_,i⟩:=f 0 3 0 O;obtain⟨_,j⟩:=f 1 3 1 O;rw[yi]at i j;obtain⟨k,b,-⟩:=i.lm jF;obtain⟨l,e,-⟩:=j.lm jF;simp at b e;subst b;subst e;exact⟨(k,l),O⟩
def ah4{x:U}{d:DataW H}(h:jD aa 35 x d):∃c a,x=.agg (aq c a)/\cA c a/\ol a:=by
 obtain⟨b,rfl,hl,f⟩:=h.fields as5;rw[aeJ]at hl;obtain⟨_,u⟩:=f 0 27 0 O;obtain⟨_,v⟩:=f 1 31 4 O;obtain⟨_,y⟩:=f 2 23 45 O;obtain⟨_,B⟩:=f 3 32 46 O;obtain⟨_,C⟩:=f 4 33 47 O;rw[Sw,gG]at u;rw[Sy]at v;rw[C_]at y;rw[aeH]at B;rw[aeI]at C;obtain⟨X,z4,z5,z2,l,g,e,L,hx,E,Z⟩:=ah6 u;obtain⟨z3,z7,z0,z6,N,k⟩:=ah5 v;obtain⟨W,D,R,A⟩:=yG y;obtain⟨s,n,S,-,-,q,o⟩:=B.Cj lP;obtain⟨t,Y,T,-,-,r,p⟩:=C.Cj mV;obtain⟨z1,rfl⟩:=ah7 o;obtain⟨z,rfl⟩:∃z:List (Int × Int),Y=z.map aZ:=O1 λz0 hr=>by obtain⟨-,d,k⟩:=p z0 hr;exact aia k
 refine⟨⟨l,g,X,e,z3,D,z1,z⟩,⟨z4,z5,z2,z7,z0,z6,W,.list s (aa.cellsOf 46) (bH z1),.list t (aa.cellsOf 48) (bO z)⟩,?_,⟨hx,E,Z,k,A,⟨s,_,O,λ_=>Lg⟩,⟨t,_,O,λ_=>Lh⟩⟩,⟨λz8 n h=>?_,λz8 n h=>?_⟩⟩
 .congr 1;unfold aq;rw[<-L,<-N];have m:b=b.take 4++((b.drop 4).take 41++((b.drop 45).take 1++((b.drop 46).take 1++(b.drop 47).take 1))):=by have f1:b.drop 47=(b.drop 47).take 1:=(ga (by rw[List.length_drop];omega)).symm;have f2:=(pX 1 (b.drop 46)).symm;have f3:=(pX 1 (b.drop 45)).symm;have f4:=(pX 41 (b.drop 4)).symm;have f5:=(pX 4 b).symm;rw[pW]at f2 f3 f4;rw[<-f1];exact f5.trans (congrArg _ (f4.trans (congrArg _ (f3.trans (congrArg _ f2)))))
  rw[R,S,T]at m;rw[iO];exact m
 .injection h with i h2 j;rw[<-j];exact q i
 .injection h with i h2 j;rw[<-j];exact r i
def Wl:List aF:=[3,4,5,22,23,25,27,29,31,32,33,35,46,48]
end
end Go.Proofs.YtcbhpkjbiehcpaaGreatDoor
end
section
namespace Go.AE
open Go.RowKit Go.WideShapes Go.ChangeShapes
def EH(P:bk)(e:List aF)(t:aF):Bool:=
 match P.underlying t with
 |some .bool|some (.int _)|some .string=>V
 |some (.slice b)=>e.contains b&&decide (0<P.cellsOf b)
 |some (.struct d)=>zT P 0 d.toList (P.cellsOf t)&&d.toList.all λf=>e.contains f.type
 |some (.array g b)=>hy (P.cellsOf t) (g*P.cellsOf b)&&e.contains b
 |_=>ah
def Ik(P:bk)(b:List aF):Bool:=b.all (EH P b)
section
variable {H:Type} {Z:aF × aG->H} {P:bk} {W:World}
def atS{z3:List aF}(hS:Ik P z3=V):∀(fuel:Nat) (t:aF) (cs:List aG) (x:DataW H × List MemPlace),DataW.trod Z P W 0 (λ_=>V) V fuel t cs=J x->z3.contains t=V->
 ∃xs,aI (aW.init W) xs cs/\xs.all U.cW=V/\Has P t xs x.1:=by
 intro fuel
 induction fuel with
 |zero=>intro t cs x h;simp[DataW.trod]at h|succ fuel ih=>
  intro t cs x h jH;have k:EH P z3 t=V:=eJ.1 hS t (by simp_all);unfold EH at k;split at k
  .rename_i d;obtain⟨z5,rfl,rfl⟩:=DataW.trod_bool d h;exact⟨_,.cons _ _ _ _ (.v _ O) .nil,O,.bool d z5⟩
  .rename_i q d;obtain⟨z0,rfl,rfl,A⟩:=DataW.trod_int d h;exact⟨_,.cons _ _ _ _ (.v _ O) .nil,O,.int d z0 A⟩
  .rename_i d;obtain⟨z6,rfl,rfl,hs⟩:=DataW.trod_string d h;exact⟨_,.cons _ _ _ _ (.v _ O) .nil,O,.str d z6 hs⟩
  .rename_i l d;rw[bm,decide_eq_true_eq]at k;obtain⟨avy,A'⟩:=k;rcases DataW.trod_slice d h with⟨rfl,rfl⟩|⟨a,len,aS,j,v,z0,hm,rfl,rfl,-,MM,Mp,G_,ais,ai4,-⟩
   .exact⟨_,.cons _ _ _ _ (.nil _) .nil,O,.none d⟩
   .have hm:z0=fuel:=(by omega);subst hm;obtain⟨l_,aiX⟩:=ai4 O;have Y:∀e,e<len->∃r f B,W.cells? 0 (a.add (e*P.cellsOf l)) (P.cellsOf l)=J r/\j[e]?=J B/\aI (aW.init W) f r/\f.all U.cW=V/\Has P l f B.1:=by
     intro e hi;have g:=ais e hi;rw[aP (by omega:e<F j)]at g;cases hc:W.cells? 0 (a.add (e*P.cellsOf l)) (P.cellsOf l) with
     |none=>simp_all|some r=>
      grind
    by_cases aik:aS=0
    .have s:len=0:=(by omega);subst aik;subst s;have he:j=[]:=List.eq_nil_of_length_eq_zero G_;subst he;refine⟨[.list .tight (P.cellsOf l) []],.cons _ _ _ _ (.fZ _ _) .nil,O,?_⟩;show Has P t _ (.slice [] (v.map (·.1)));exact .list d .tight [] [] (v.map (·.1)) (.inr ⟨O,O⟩) (bY _) O b8 b8
    .-- the block is there
     have R:a.spot=ag:=by
      have:∃r,W.cells? 0 (a.add 0) (P.cellsOf l)=J r:=by
       rcases Nat.eq_zero_or_pos len with h0|h0
       .have g:=aiX 0 M;rw[aP (by omega:0<F v)]at g;cases hc:W.cells? 0 (a.add ((len+0)*P.cellsOf l)) (P.cellsOf l) with|none=>simp_all|some r=>simp_all
       .grind
      obtain⟨r,gC⟩:=this;obtain⟨hl,hg⟩:=SI gC;have h0:=hg 0 A';rw[aP (by omega:0<F r)]at h0;have:(a.add 0).add 0=a:=(by simp[Addr.add]);rw[this]at h0;exact asj h0
     obtain⟨z4,b,sp⟩:=a;simp only at R;subst R;have N:∀q,q<=len->∃n:List (List U),F n=q/\(∀f∈n,F f=P.cellsOf l/\f.all U.cW=V)/\(∀(e:Nat) (f:List U) (z1:DataW H),n[e]?=J f->(j.map (·.1))[e]?=J z1->Has P l f z1)/\
      ∃cells:List aG,F cells=q*P.cellsOf l/\aI (aW.init W) n.flatten cells/\∀(u:Nat) (c:aG),cells[u]?=J c->W.cell? ⟨z4,b+u,ag⟩=J c:=by
      intro q
      induction q with
      |zero=>intro _;exact⟨[],O,by simp,by simp,[],by simp,.nil,by simp⟩|succ q ihk=>
       intro hk;obtain⟨n,e1,e2,e3,cells,c1,c2,c3⟩:=ihk M;obtain⟨r,f,B,hc,E,o,g2,g3⟩:=Y q M;obtain⟨pI,hvg⟩:=SI hc;refine⟨n++[f],by grind,λr' y9=>?_,λe r' z1 hi hd=>?_,cells++r,by grind,?_,λu c L=>?_⟩
       .rcases List.mem_append.1 y9 with g|g
        .grind
        .simp only[ig]at g;subst g;exact⟨by rw[o.length,pI],g2⟩
       .grind
       .rw[oC];simpa using c2.append o
       .rcases dp u (F cells) with g|g
        .grind
        .rw[List.getElem?_append_right g]at L;have vp:u-F cells<P.cellsOf l:=(by have:=(aT.1 L).1;omega);have h2:=hvg _ vp;rw[L,Addr.hC,Addr.hC]at h2
         grind
     obtain⟨n,e1,e2,e3,cells,c1,c2,c3⟩:=N len (aV _);have C:n.flatten.all U.cW=V:=(by rw[List.all_flatten];simp only[eJ];intro f S;have:=(e2 f S).2;simpa using this);refine⟨[.list .held (P.cellsOf l) n],.cons _ _ _ _ (.list .held (P.cellsOf l) n z4 b len aS cells e1.symm (λf S=>(e2 f S).1) c2 c3 ⟨MM,aX⟩ C) .nil,O,?_⟩;exact .list d .held n (j.map (·.1)) (v.map (·.1)) (.inl O) M (by simp_all) e3 (λf S=>(e2 f S).1)
  .rename_i fs d;rw[bm,eJ]at k;obtain⟨ai8,C⟩:=k;obtain⟨y,z0,hm,rfl,p,El,rO⟩:=DataW.trod_struct d h;have hm:z0=fuel:=(by omega);subst hm;have fld:∀(e:Nat) (i:Field),fs[e]?=J i->∃f B,y[e]?=J B/\aI (aW.init W) f ((cs.drop i.offset).take (P.cellsOf i.type))/\f.all U.cW=V/\Has P i.type f B.1:=by
    intro e i hf;have g:=rO e i hf;have di:e<F y:=(by rw[El];exact(Array.getElem?_eq_some_iff.1 hf).1);rw[aP di]at g;obtain⟨f,o,g2,g3⟩:=ih i.type _ _ g (C i (by
     grind))
    exact⟨f,_,aP di,o,g2,g3⟩
   have build:∀(X:List Field) (e b:Nat),(∀u i,X[u]?=J i->fs[e+u]?=J i)->zT P b X (P.cellsOf t)=V->b<=F cs->
    ∃xs,aI (aW.init W) xs (cs.drop b)/\xs.all U.cW=V/\∀u i,X[u]?=J i->b<=i.offset/\∃f B,y[e+u]?=J B/\(xs.drop (i.offset-b)).take (P.cellsOf i.type)=f/\Has P i.type f B.1:=by
    intro X
    induction X with
    |nil=>intro e b _ T _;have A7:b=P.cellsOf t:=lN T;refine⟨[],?_,O,λu i L=>by grind⟩;rw[A7,<-p,FM];exact .nil|cons i X ihl=>
     intro e b hl T iE;rw[zT,bm]at T;have ho:i.offset=b:=lN T.1;obtain⟨f,B,E,o,g2,g3⟩:=fld e i (by simpa using hl 0 i O);have Hk:b+P.cellsOf i.type<=F cs:=by
      rw[p];have:∀(X:List Field) (z2:Nat),zT P z2 X (P.cellsOf t)=V->z2<=P.cellsOf t:=by
       intro X
       induction X with
       |nil=>intro z2 h;exact abh (lN h)|cons i X ih=>intro z2 h;rw[zT,bm]at h;grind
      exact this X _ T.2
     obtain⟨xs,m,x2,x3⟩:=ihl (e+1) (b+P.cellsOf i.type) (λu f' L=>by
      have:=hl (u+1) f' (by simp_all)
      grind) T.2 Hk
     rw[ho]at o;have l_:F f=P.cellsOf i.type:=(by rw[o.length];simp;omega);refine⟨f++xs,?_,by simp_all,λu f' L=>?_⟩
     .have:=o.append m;rw[<-pW,pX]at this;omega
     .cases u with|zero=>simp_all|succ u=>obtain⟨oL,r',y',hy',y9,D⟩:=x3 u f' (by simp_all);refine⟨M,r',y',by grind,?_,D⟩;rw[show f'.offset-b=F f+(f'.offset-(b+P.cellsOf i.type)) by omega,<-pW,CD];omega
   obtain⟨xs,m,x2,x3⟩:=build fs.toList 0 0 (λu i L=>by simp_all) ai8 (bY _);rw[gG]at m;refine⟨xs,m,x2,.struct d xs (y.map (·.1)) (by rw[m.length,p]) (by grind) λe i z1 hf hd=>?_⟩;obtain⟨-,f,B,E,S,D⟩:=x3 e i (by simp_all)
   grind
  .rename_i z0 l d;rw[bm]at k;have gK:P.cellsOf t=z0*P.cellsOf l:=lN k.1;obtain⟨y,fu,UW,rfl,p,El,rO⟩:=DataW.trod_array d h;have UW:fu=fuel:=(by omega);subst UW;have N:∀q,q<=z0->∃xs,aI (aW.init W) xs (cs.take (q*P.cellsOf l))/\xs.all U.cW=V/\∀e,e<q->∃B,y[e]?=J B/\Has P l ((xs.drop (e*P.cellsOf l)).take (P.cellsOf l)) B.1:=by
    intro q
    induction q with
    |zero=>intro _;exact⟨[],by simp;exact .nil,O,λe hi=>absurd hi (nt e)⟩
    |succ q ihk=>
     intro hk;obtain⟨xs,m,x2,x3⟩:=ihk M;have g:=rO q M;rw[aP (by omega:q<F y)]at g;obtain⟨f,o,g2,g3⟩:=ih l _ _ g k.2;have s:(q+1)*P.cellsOf l<=F cs:=(by rw[p,gK];exact mz _ hk);have fh:F xs=q*P.cellsOf l:=(by rw[m.length,cR];rw[js]at s;omega);have l_:F f=P.cellsOf l:=(by rw[o.length];simp;rw[js]at s;omega);refine⟨xs++f,?_,by simp_all,λe hi=>?_⟩
     .have:=m.append o
      rwa [<-List.take_add,<-abv]at this
     .rcases dp e q with h2|h2
      .obtain⟨B,E,D⟩:=x3 e h2;refine⟨B,E,?_⟩;have h3:(e+1)*P.cellsOf l<=q*P.cellsOf l:=mz _ h2
       grind
      grind
   obtain⟨xs,m,x2,x3⟩:=N z0 (aV _);rw[<-gK,<-p,fK]at m;refine⟨xs,m,x2,.array d xs (y.map (·.1)) (by rw[m.length,p]) (by grind) λe z1 hd=>?_⟩
   grind
  simp_all
def acL{r:List aF}(m:Ik P r=V){t:aF}{v:aG}{d:DataW H}{p:List MemPlace}{j:Nat}(h:DataW.Trod Z P W 0 (λ_=>V) V t v d p)(b:Value.okWide P W .any j t v)(n:r.contains t=V):
 ∃x,aQ (aW.init W) x v/\jD P t x d:=by
 obtain⟨l,y⟩:=h;obtain⟨q,g,h2,N⟩:=atS m l t _ _ y n;have f:∀c,v.cells.toList=[c]->v=c->(∀k,P.underlying t≠J (.struct k))->(∀E s,P.underlying t≠J (.array E s))->∃x,aQ (aW.init W) x v/\jD P t x d:=by
  intro c u o D C;rw[u]at g;cases g with|cons x _ _ _ B A=>cases A;refine⟨x,o ▸ B,?_⟩;unfold jD;simp_all
 have i:EH P r t=V:=eJ.1 m t (by simp_all);unfold EH at i;unfold Value.okWide at b;split at i
 .rename_i e;rw[e]at b;simp only[Cell.okWide,Cell.ok,e]at b;cases v<;>simp at b;exact f _ O O (by simp_all) (by simp_all)
 .rename_i R e;rw[e]at b;simp only[Cell.okWide,Cell.ok,e]at b;cases v<;>simp at b;exact f _ O O (by simp_all) (by simp_all)
 .rename_i e;rw[e]at b;simp only[Cell.okWide,Cell.ok,e]at b;cases v<;>simp at b;exact f _ O O (by simp_all) (by simp_all)
 .rename_i s e;rw[e]at b;simp only[Cell.okWide,Cell.ok,e]at b;cases v<;>simp at b;exact f _ O O (by simp_all) (by simp_all)
 .rename_i L e;rw[e]at b;obtain⟨k,rfl,-,-⟩:=b;exact⟨.agg q,.agg _ _ g,by unfold jD;simp_all⟩
 .rename_i E s e;rw[e]at b;obtain⟨k,rfl,-,-⟩:=b;exact⟨.agg q,.agg _ _ g,by unfold jD;simp_all⟩
 simp_all
def acM{r:List aF}(o:Ik P r=V){e:Nat}:∀{ts:List aF} {vs:List aG} {b:List (DataW H)} {p:List MemPlace},DataW.TrodAll Z P W 0 (λ_=>V) V ts vs b p->
 (∀(j:Nat) t v,ts[j]?=J t->vs[j]?=J v->Value.okWide P W .any e t v)->(∀t∈ts,r.contains t=V)->∃xs,aI (aW.init W) xs vs/\qE P ts xs b:=by
 intro ts
 induction ts with
 |nil=>intro vs b p h _ _;obtain⟨rfl,rfl,rfl⟩:=trodAll_nil h;exact⟨[],.nil,aX⟩
 |cons t ts q=>intro vs b p h g d;obtain⟨v,y,C,s,A,B,rfl,rfl,rfl,n,h2⟩:=trodAll_cons h;obtain⟨x,i,k⟩:=acL o n (g 0 t v O O) (d t gH);obtain⟨xs,l,m⟩:=q h2 (λj t v f u=>g (j+1) t v (by simp_all) (by simp_all)) (λt f=>d t (gx _ f));exact⟨x::xs,.cons _ _ _ _ i l,k,m⟩
structure QC(P:bk)(S:List aF)(f:aR)(fn:Func)(tb:aF):Prop where
 func:P.funcs[f]?=J fn
 laid:laidOutB P=V
 set:Ik P S=V
 P4:∀t∈fn.params.toList,S.contains t=V/\P.readableRec t=V/\t<P.types.size
 res:fn.resultTypes=#[tb]
 bool:P.underlying tb=J .bool
variable {G:Nat->Option (List U)} {aJ:aR->Option (List U->Heap->Option (U × Heap))}
def akt{z0:List aF}(hp:Prog P){f:aR}{fn:Func}{tb:aF}(A:QC P z0 f fn tb){s:ChangeSpec}{apart fresh k o:Bool}{C:Nat}{args:Array aG}{b S:List (DataW H)}{d:List MemPlace}
 (i:s.vars=[]) (u:∀b:List (DataW H),F b=fn.params.size->(s.fn H b).results=[.lit (.bool V)]/\(s.fn H b).args=b/\(s.fn H b).vars=[])
 (N:∀(j:Nat) t v,fn.params[j]?=J t->args[j]?=J v->Value.okWide P W .any C t v)
 (X:DataW.Whole Z P fn.params.toList s.vars apart W args.toList b S d)
 (hG:∀g cs,G g=J cs->∃cells,aI (aW.init W) cs cells/\∀(j:Nat) (c:aG),cells[j]?=J c->W.cell? ⟨g,j,ag⟩=J c)
 (r:∀g p,aJ g=J p->kJ P G W g p)
 (D:∀xs:List U,qE P fn.params.toList xs b->∃h',(whole P G aJ).call f xs Heap.init=J (.ret (.v (.bool V)),h')):
 Calls P f args W λe W'=>∃v,e=.returned v/\s.post Z P fn apart fresh k o W args v W':=by
 have B:=X;obtain⟨p,z1,hA,hV,m,xe,hnd⟩:=X;have T:DataW.TrodVars Z P W (λ_=>V) [] S z1:=i ▸ hV;obtain⟨rfl,rfl⟩:=trodVars_none T;rw[gj]at m;subst m;obtain⟨xs,hxs,l⟩:=acM A.set hA (λj t v y hv=>N j t v (by simp_all) (by simp_all)) (λt y=>(A.P4 t y).1);obtain⟨h',q⟩:=D xs l;have L:ji P G W (aW.init W) Heap.init W:=ar0 W hG;obtain⟨-,hc⟩:=(Fy hp r).call f xs Heap.init _ _ q;intro cs;obtain⟨K',w',fr,le,s',gZ,hfr,v,R,hl⟩:=hc (aW.init W) W args hxs L cs;have hv:=R.gP.1;subst hv;have Y:Below W.heap.size W w':=by have:=s'.fL;rw[le.base]at this;exact this
 have E:F b=fn.params.size:=by
  have:∀{n:List aF} {xs:List U} {b:List (DataW H)},qE P n xs b->F b=F n:=by
   intro n
   induction n with
   |nil=>intro xs b h;cases xs<;>cases b<;>simp[qE]at h ⊢
   |cons t n ih=>intro xs b h;cases xs<;>cases b<;>simp[qE]at h ⊢;grind
  simpa using this l
 obtain⟨r1,r2,r3⟩:=u b E;refine⟨.returned (.bool V),w',fr,⟨_,O,?_⟩,gZ,hfr,hl⟩;refine anl (pa:=d) (pv:=[]) B (λz2 sp hd=>?_) (λsp vx=>?_) (λsp _=>?_) b8 Y (ok_one A.res O (okWide_bool_mk A.bool _))
 .rw[A.res,gj,r1];exact trodAll_cons_mk (shut_bool A.bool _) trodAll_mk0
 .rw[gj,r2];exact acN A.laid hA (λt y=>(A.P4 t y).2) (λx R=>Y.same (B.lt x R)) vx
 .rw[i,gj,r3];exact rfl
end
end Go.AE
end
