/-
  The engine, part 59: a walk in two parts.
-/
import Derived.Test.YtcbhpkjbiehcpaaGreatDoorRF
import Derived.Test.YtcbhpkjbiehcpaaGreatDoorRD
import Derived.Test.YtcbhpkjbiehcpaaGreatDoorRB
import Derived.Test.YtcbhpkjbiehcpaaGreatDoorRE
import Derived.LaidMore
import Derived.MakeChecks
import Derived.Stop.LaidErr
import Derived.Stop.Joined
import Derived.Lib.LaidTab
import Derived.Test.YtcbhpkjbiehcpaaGreatDoorRows
open True renaming intro->aX
open Go.Proofs.Tryz renaming prog->aa,underlying33->mZ,func121->Qz,func58->Ka,underlying32->kZ,underlying23->cT,func49->abi,func15->QA,func52->FB,func56->Cx,underlying29->Kb,underlying22->gm,func20->aa6,func3->Cw,underlying3->mD
open Option renaming some->J,bind_some->iH,none->af,map_eq_some_iff->dg
open Bool renaming false->ai,true->V,and_eq_true->bm,false_and->ut,true_and->mq
open List renaming mem_cons->gL,not_mem_nil->qp,take_succ_cons->dw,take_zero->cX,length->F,getElem?_map->dW,length_map->br,getElem?_eq_some_iff->aS,length_nil->fQ,getElem?_eq_getElem->aN,cons_append->eu,nil_append->dM,getElem?_cons_zero->iF,getElem?_cons_succ->jS,length_append->cg,length_cons->dY,map_append->jB,map_cons->eD,flatten_append->oi,flatten_cons->jA,append_assoc->iE,drop_succ_cons->su,drop_zero->gw,mem_singleton->hY,append_nil->ga,drop_length->Fl,all_append->sn,map_map->zK,drop_left->Ci,mem_map->iV,take_of_length_le->fR,length_take->cR,getElem?_take->mr,replicate->bB,take_length->fB,cons.inj->P1,all_eq_true->eF,getD_eq_getElem?_getD->eG,mem_cons_self->gx,mem_cons_of_mem->gj,take_append_drop->pG,drop_drop->pF
open Nat renaming le_refl->aV,reduceEqDiff->aJ,zero_le->bV,not_lt_zero->mY,lt_or_ge->dp,mul_le_mul->ji,add_mul->jh,succ_mul->aaW,mul_one->jC,beq->gX,sub_self->qs,le_of_ble_eq_true->jq,eq_of_beq_eq_true->kU,le_of_eq->aaI,mul_le_mul_right->ma
open Prod renaming fst->dN,mk.inj->eW,snd->mb
open And renaming intro->aj
open Go renaming Value->aG,FuncId->aQ,Program->bj,TypeId->aC
open Array renaming all_eq_true'->E_,mem_of_getElem?->Zw
set_option maxHeartbeats 64000000
set_option maxRecDepth 100000
set_option linter.unusedSimpArgs false
set_option linter.unusedVariables false
set_option linter.constructorNameAsVariable false
set_option linter.defProp false
section
namespace Go.Proofs.YtcbhpkjbiehcpaaGreatDoor
open Go.AE Go.NT
def ano:Tryz.f59.results.toList=[.tmp 2]:=by kernel_rfl
def Ic:Tryz.f119.results.toList=[.tmp 5]:=by kernel_rfl
def vz:Tryz.f118.results.toList=[.tmp 6,.tmp 7]:=by kernel_rfl
def vh{H}{b}{q}(d:H.boxes[b]?=J (bh q)):aD aa Gt H 48 (.ptr (.box b) 0)=J (.agg (bh q)):=(yT d).2.2
def HG(p:Int × Int)(h:Heap):SC.call 59 [.agg (bh p)] h=J (.ret (.v (.int .i64 p.1)),h.push (bh p)):=by
 have b:=t_ p;have e:=yT (aK h (bh p));have f:=F5;generalize bh p=d at *
 unfold I at *
 refine cq O Tryz.func59 O ?_;exact dV @ano @a_
def QS:fx aa 100=J ai:=by kernel_rfl
def Vv(p q:Int × Int)(e:Nat)(h:Heap)(j:h.boxes[e]?=J [.func (.func 59) [] []]):∃h',SC.call 119 [.agg (bh p),.agg (bh q),.ptr (.box e) 0] h=J (.ret (.v (.int .i64 (wq p.1 q.1))),h')/\Ext h h':=by
 have A:=t_ p;have B:=t_ q;obtain⟨b,d⟩:∃b,(h.push (bh p)).push (bh q)=b:=⟨_,O⟩;have f:Ext h b:=by rw[<-d];exact(Ext.push _ _).trans (.push _ _)
 have l:b.boxes[h.boxes.length]?=J (bh p):=by rw[<-d];exact aM (aK _ _)
 have g:b.boxes[(h.push (bh p)).boxes.length]?=J (bh q):=by rw[<-d];exact aK _ _
 have i:=f.box _ _ j;have y:=vh l;have L1:=vh g;have r:=vh (aM (cs:=bh p) g);have t:aD aa Gt b 100 (.ptr (.box e) 0)=J (.func (.func 59) [] []):=by rw[fe QS i];rfl
 have u:aD aa Gt (b.push (bh p)) 100 (.ptr (.box e) 0)=J (.func (.func 59) [] []):=by rw[fe QS (aM i)];rfl
 have C:=HG p b;have D:=HG q (b.push (bh p));have E:=R5 p.1 q.1 ((b.push (bh p)).push (bh q));have x:=(f.trans (.push b (bh p))).trans (.push _ (bh q));have n:cH (.agg (bh q)) (.agg (bh q))=V:=by simp[cH,fL,gH,bh]
 have o:cH (.func (.func 59) [] []) (.func (.func 59) [] [])=V:=rfl;clear j l g i f;generalize bh p=s at *
 generalize bh q=m at *
 refine gy O Tryz.func119 O ?_;refine cK @Ic @a_ @d ?_;refine iC [(2,3),(2,4)] jr bD (λz k=>?_) ?_
 .simp only[gL,qp,or_false]at k;rcases k with rfl|rfl
  .refine jP (x:=.ptr (.box e) 0) (v:=.func (.func 59) [] []) bD O O O bD (o) ?_ ?_<;>(simp only[dw,cX];exact dV @Ic @and_self)
  .refine jP (x:=.ptr (.box (F (h.push s).boxes)) 0) (v:=.agg m) bD O O O bD (n) ?_ ?_<;>(simp only[dw,cX];exact dV @Ic @and_self)
 refine bg @Ic ?_;exact⟨_,O,x⟩
def xl:cB aa 48=J 2:=by kernel_rfl
def yU{H}{l}{i s}{p}(h:l[i]?=J p):aD aa Gt H 48 (.elem s (bN l) i 0)=J (.agg (bh p)):=by rw[D_ bD xl (row:=bh p) (by unfold bN;rw[dW,h];rfl) (aV 2)];rfl
def aq3(h:Heap)(k:Tok)(s:Nat)(l:List (Int × Int))(p:Int × Int)(o:Nat)(hb:h.boxes[o]?=J [.func (.func 59) [] []])(hs:l≠[]->s=2)(N:Fi dN l)(hl:F l<=1000000):
 ∃r h',SC.call 118 [.list k s (bN l),.agg (bh p),.func (.func 119) [] [.ptr (.box o) 0]] h=J (r,h')/\r=.ret (.tuple [.v (.int .i64 (iY dN p.1 l:Nat)),.v (.bool (ni dN p.1 l))])/\Ext h h':=by
 have Y:=ae.mk (aj hs N);clear hs N;have u33:=mZ;have z48:=xl;have bp:=t_ p;have eC:F (bN l)=F l:=by unfold bN;rw[br]
 have kx0:=ae.mk (Ext.push h (bh p));have kb0:=ae.mk (aM (cs:=bh p) hb);have kp0:=ae.mk (aK h (bh p));clear hb;refine bL O Tryz.func118 O ?_;refine bE @vz @a_ ?_;refine bC.gen λt i g' ek dm=>?_;have f0:t.get 0=.list k s (bN l):=by rw[i];exact gS
 have f2:t.get 2=.func (.func 119) [] [.ptr (.box o) 0]:=by rw[i];exact gS
 have f4:t.get 4=.ptr (.box (F h.boxes)) 0:=by rw[i];exact gS
 have f8:t.get 8=.v (.int .i64 (F l:Nat)):=by rw[i];simp only[gW,reduceIte,aJ,aB,eC]
 have f9:t.get 9=.v (.int .i64 (0:Nat)):=by rw[i];exact gR
 have f10:t.get 10=.v (.int .i64 (F l:Nat)):=by rw[i];simp only[gW,reduceIte,aJ,aB,eC]
 have fd:t.defers=[]:=by rw[g'];exact gS
 clear i g' ek dm;refine b9 (λz0 Z H=>∃b d:Nat,b<=d/\d<=F l/\z0=d-b/\ae ((∀g f,g<b->l[g]?=J f->f.1<p.1)/\∀g f,d<=g->l[g]?=J f->p.1<=f.1)/\Z.get 0=.list k s (bN l)/\Z.get 2=.func (.func 119) [] [.ptr (.box o) 0]/\Z.get 4=.ptr (.box (F h.boxes)) 0/\Z.get 8=.v (.int .i64 (F l:Nat))/\Z.get 9=.v (.int .i64 (b:Nat))/\Z.get 10=.v (.int .i64 (d:Nat))/\Z.defers=[]/\ae (Ext h H)/\ae (H.boxes[o]?=J [.func (.func 59) [] []])/\ae (H.boxes[h.boxes.length]?=J (bh p))) ?_ (F l) _ _ ?_;rotate_left 1
 .exact⟨0,l.length,bV _,aV _,O,⟨λg f hj=>absurd hj (mY _),λg f h1 h2=>by have:=(aS.1 h2).1;omega⟩,f0,f2,f4,f8,f9,f10,fd,kx0,kb0,kp0⟩
 clear f0 f2 f4 f8 f9 f10 fd kx0 kb0 kp0;rintro z0 Z H ⟨b,d,h1,h2,rfl,X,g0,g2,g4,g8,g9,g10,hd,kx,kb,kp⟩;have lp:=vh kp.out;by_cases dj:b<d
 .have R:s=2:=Y.out.1 (by intro q;rw[q,fQ]at h2;omega);subst R;obtain⟨e,n⟩:∃e:Nat,(b+d)/2=e:=⟨_,O⟩;obtain⟨f,u⟩:∃f,l[e]?=J f:=⟨_,aN M⟩;have ld:=yU (H:=H) (s:=2) u;obtain⟨H2,ls,v⟩:=Vv f p o H kb.out;have fH:(b:Int)<(d:Int):=by omega
  have wM:(b:Int)+(d:Int)=((b+d:Nat):Int):=by omega
  have AW:IntKind.u64.wrap ((b+d:Nat):Int)=((b+d:Nat):Int):=wrap_u64 M;have oy:IntKind.i64.wrap (((b+d)/2:Nat):Int)=((e:Nat):Int):=by rw[n];exact ja M M
  have Ur:(e:Int)<(F l:Int):=by omega
  have cn:=R7 f.1 p.1;have B:=ae.mk (kx.out.trans v);have kb2:=ae.mk (v.box _ _ kb.out);have kp2:=ae.mk (v.box _ _ kp.out);have y:=ae.mk u;clear u v;by_cases C:f.1<p.1
  .have S:ae ((∀g f,g<e+1->l[g]?=J f->f.1<p.1)/\∀g f,d<=g->l[g]?=J f->p.1<=f.1):=⟨λg w hj j=>by
    rcases dp g e with q|q
    .exact Int.lt_trans (Y.out.2 g e w f j y.out q) C
    .have:g=e:=(by omega);subst this;rw[y.out]at j;injection j with j;rw[<-j];exact C,X.out.2⟩
   rw[bQ C]at cn;have T:=ae.mk n;clear C n;refine bA @vz @eu.{0} @dM.{0} (aj @aT (aj @me (aj @tg @ul))) ?_;refine du jr bD ?_;refine bA @vz @eu.{0} @dM.{0} (aj @aT (aj @me (aj @tg @ul))) ?_;have:=T.out;exact⟨d-(e+1),by omega,e+1,d,by omega,h2,O,S,by simp,by first|exact B|trivial,by first|exact kb2|trivial,by first|exact kp2|trivial⟩
  .have S:ae ((∀g f,g<b->l[g]?=J f->f.1<p.1)/\∀g f,e<=g->l[g]?=J f->p.1<=f.1):=⟨X.out.1,λg w hj j=>by
    rcases dp e g with q|q
    .have:=Y.out.2 e g f w y.out j q;omega
    .have:g=e:=(by omega);subst this;rw[y.out]at j;injection j with j;rw[<-j];omega⟩
   rw[b_ C]at cn;have T:=ae.mk n;clear C n;refine bA @vz @eu.{0} @dM.{0} (aj @aT (aj @me (aj @tg @ul))) ?_;refine du jr bD ?_;refine bA @vz @eu.{0} @dM.{0} (aj @aT (aj @me (aj @tg @ul))) ?_;have:=T.out;exact⟨e-b,by omega,b,e,by omega,by omega,O,S,by simp,by first|exact B|trivial,by first|exact kb2|trivial,by first|exact kp2|trivial⟩
 .have iq:b=d:=by omega
  subst iq;have m:=Yh h2 X.out.1 X.out.2;by_cases L:b<F l
  .have R:s=2:=Y.out.1 (by intro q;rw[q,fQ]at L;omega);subst R;obtain⟨f,u⟩:∃f,l[b]?=J f:=⟨_,aN L⟩;have ld:=yU (H:=H) (s:=2) u;obtain⟨H2,ls,v⟩:=Vv f p o H kb.out;have fH:(b:Int)<(F l:Int):=(by omega);have Dq:decide ((b:Int)<(F l:Int))=V:=(by simp[L]);have cz:=R8 f.1 p.1;have D:ni dN p.1 l=decide (f.1=p.1):=(by unfold ni oZ;rw[m,u];simp only;split<;>simp[*]);have kf:=ae.mk D;have ka:=ae.mk m;have B:=ae.mk (kx.out.trans v);clear D m u v;refine bA @vz @eu.{0} @dM.{0} @aT ?_;refine du jr bD ?_;refine bA @vz @eu.{0} @dM.{0} @aT ?_;exact⟨_,_,O,by rw[kf.out,ka.out],B.out⟩
  .have D:ni dN p.1 l=ai:=(by unfold ni oZ;rw[m,List.getElem?_eq_none M];rfl);have Dq:decide ((b:Int)<(F l:Int))=ai:=(by simp;omega);have kf:=ae.mk D;have ka:=ae.mk m;clear D m;refine bA @vz @eu.{0} @dM.{0} @aT ?_;refine du jr bD ?_;refine bA @vz @eu.{0} @dM.{0} @aT ?_;exact⟨_,_,O,by rw[kf.out,ka.out],kx.out⟩
def mi(p:Int × Int):Array aG:=#[.int .i64 p.1,.int .i64 p.2]
def SJ(d)(p q):cV aa (Op.equalIn (d+2) 48 (.agg (mi p)) (.agg (mi q)))=J (decide (p=q)):=by
 have e:∀p,cV aa (part 3 (mi p) 0)=J (.int .i64 p.1):=λp=>by kernel_rfl
 have h2:∀p,cV aa (part 3 (mi p) 1)=J (.int .i64 p.2):=λp=>by kernel_rfl
 have g:aa.stoodInHeld 48=ai:=by kernel_rfl
 have f:cV aa program=J aa:=rfl;have j:(p=q)↔(p.1=q.1/\p.2=q.2):=Prod.ext_iff;have k:decide (p=q)=(decide (p.1=q.1)&&decide (p.2=q.2)):=by rw[Bool.eq_iff_iff];simp[j]
 rw[k];unfold Op.equalIn;rw[gg,Bv Tryz.underlying48,iH];by_cases b:p.1=q.1
 .by_cases i:p.2=q.2
  .simp[gg,xb,f,g,e,h2,wz,b,i]
  .simp[gg,xb,f,g,e,h2,wz,b,i]
 .simp[gg,xb,f,g,e,h2,wz,b]
def afW{x y}(p q):cy aa .eql 48 x y (.agg (bh p)) (.agg (bh q))=J (.v (.bool (decide (p=q)))):=by
 have b:cV aa (eqGuard .eql 48 x y (.agg (mi p)) (.agg (mi q)))=J ():=by kernel_rfl
 show(cV aa (do eqGuard .eql 48 x y (.agg (mi p)) (.agg (mi q));binOp .eql 48 (.agg (mi p)) (.agg (mi q)))).bind iU=_;rw[gg,b,iH];show(cV aa (do pure (.bool (<-Op.equal 48 (.agg (mi p)) (.agg (mi q)))))).bind iU=_;rw[gg];have:=SJ 9998 p q;unfold Op.equal Op.maxDepth;rw[this];rfl
def alb{x y}(p q):cy aa .neq 48 x y (.agg (bh p)) (.agg (bh q))=J (.v (.bool (!decide (p=q)))):=by
 have b:cV aa (eqGuard .neq 48 x y (.agg (mi p)) (.agg (mi q)))=J ():=by kernel_rfl
 show(cV aa (do eqGuard .neq 48 x y (.agg (mi p)) (.agg (mi q));binOp .neq 48 (.agg (mi p)) (.agg (mi q)))).bind iU=_;rw[gg,b,iH];show(cV aa (do pure (.bool (!(<-Op.equal 48 (.agg (mi p)) (.agg (mi q))))))).bind iU=_;rw[gg];have:=SJ 9998 p q;unfold Op.equal Op.maxDepth;rw[this];rfl
def U3:∃i,aa.info? 48=J i/\i.size=2/\i.bytes<=64/\(i.zero.map λz=>z.cells.size)=J 2:=by obtain⟨i,b,h2,d,z,e,f⟩:=DY;exact⟨i,b,h2,d,by rw[e];simp[f]⟩
def Ob:Tryz.f121.results.toList=[.tmp 2]:=by kernel_rfl
def ue:Tryz.f58.results.toList=[.tmp 6]:=by kernel_rfl
def adi:ff aa 33 0 []=J (.list .tight 2 []):=by kernel_rfl
def as8{h}{s}{l}(i:l≠[])(g:F l<=1000000)(k)(j:s=2):lU aa h #[33,33] (.list .tight 2 []) (.list k s (bN l))=J (.arr (F h.boxes) 0 (F l) (F l),h.push (bN l).flatten):=by
 subst j;obtain⟨n,e,d,m,f⟩:=U3;have p:=ji g m;have b:F (bN l)=F l:=by unfold bN;rw[br]
 have:=zu (P:=aa) (t0:=33) (t1:=33) (h:=h) (k:=.tight) (sz:=2) (es:=[]) (new:=bN l) (i:=n) (x:=.list k 2 (bN l)) mZ mZ e M (by rw[d];exact f) (by intro o;apply i;unfold bN at o;simpa using o) (by simp[b];omega) (by simp[b];omega) (.inl d.symm) (.inr O) (by rw[d];exact Ef);simpa [b] using this
def aew(h:Heap)(k:Tok)(s:Nat)(l:List (Int × Int))(o:l≠[]->s=2)(e:k=.nil->l=[])(n:F l<=1000000):∃r h',SC.call 121 [.list k s (bN l)] h=J (r,h')/\((l=[]/\h'=h/\∃kk s0,r=.ret (.list kk s0 [])/\(kk=.nil∨kk=.tight))∨(l≠[]/\r=.ret (.arr (F h.boxes) 0 (F l) (F l))/\h'=h.push (bN l).flatten)):=by
 have q:=mZ;have R:=adi;by_cases b:l=[]
 .subst b;clear e;have L:bN ([]:List (Int × Int))=[]:=rfl;rw[L];by_cases d:k=.nil
  .subst d;refine bL O Qz O ?_;have j:∀x t,cy aa .eql 33 x t (.list .nil s []) (.list .nil 0 [])=J (.v (.bool V)):=λ_ _=>(by kernel_rfl);refine bg @Ob ?_;exact⟨_,_,O,.inl ⟨by first|rfl|trivial,O,_,_,O,.inl O⟩⟩
  .have j:∀x t,cy aa .eql 33 x t (.list k s []) (.list .nil 0 [])=J (.v (.bool ai)):=λ_ _=>by cases k<;>first|exact absurd O d|kernel_rfl
   have D:lU aa h #[33,33] (.list .tight 2 []) (.list k s [])=J (.list .tight 2 [],h):=(by obtain⟨S,v,C,N,y⟩:=U3;unfold lU;simp only[List.getElem?_toArray,iF,jS,iH,q,v,jx,rowsOf];simp[C,y]);refine bL O Qz O ?_;refine bg @Ob ?_;exact⟨_,_,O,.inl ⟨by first|rfl|trivial,O,_,_,O,.inr O⟩⟩
 .have p:=o b;subst p;have i:bN l≠[]:=by intro E;apply b;unfold bN at E;simpa using E
  have D:=as8 (h:=h) (s:=2) b n k O;obtain⟨g,u,m⟩:∃g u,bN l=g::u:=by
   cases A:bN l with|nil=>exact absurd A i|cons g u=>exact⟨g,u,O⟩
  by_cases d:k=.nil
  .exact absurd (e d) b
  .have j:∀x t,cy aa .eql 33 x t (.list k 2 (bN l)) (.list .nil 0 [])=J (.v (.bool ai)):=λ_ _=>by rw[m];cases k<;>first|exact absurd O d|kernel_rfl
   have B:=ae.mk b;clear i m o n b e;generalize bN l=P at *
   refine bL O Qz O ?_;refine bg @Ob ?_;exact⟨_,_,O,.inr ⟨by first|exact B.out|trivial,O,O⟩⟩
def aja{h}{b n i}{cs row}{k}(d:h.boxes[b]?=J cs)(g:0<n)(f:n<1000000)(hi:i<=n)(e:F cs=n*2):SC.call 120 [.arr b 0 n n,.v (.int .i64 (i:Nat)),.list k 2 [row]] h=J (.ret (.arr (F h.boxes) 0 (n+1) (n+1)),(h.put b []).push (cs.take (i*2)++row++cs.drop (i*2))):=by rw[qZ];unfold j9 lM lJ tS;rw[aP aY];simp only[show((120:Nat)=116)=False by simp,if_false,if_true];unfold w8;simp only[d];rw[av ⟨aX,aX,g,f,by omega,by omega,aX,e⟩,Int.toNat_natCast];rfl
def ajb{h}{kk k}{s0}{row}(b:kk=.nil∨kk=.tight):SC.call 120 [.list kk s0 [],.v (.int .i64 0),.list k 2 [row]] h=J (.ret (.arr (F h.boxes) 0 1 1),h.push row):=by rw[qZ];unfold j9 lM lJ tS;rw[aP aY];simp only[show((120:Nat)=116)=False by simp,if_false,if_true];unfold w8;simp only;rw[av ⟨b,aX⟩];rfl
def OV(l):F (bN l).flatten=F l*2:=by
 induction l with
 |nil=>rfl|cons d l b=>show(F (bh d++(bN l).flatten))=_;rw[cg,b,dY,jh];show 2+_=_;omega
def Ym:∀(l:List (Int × Int)) (i:Nat),(bN l).flatten.take (i*2)=(bN (l.take i)).flatten/\(bN l).flatten.drop (i*2)=(bN (l.drop i)).flatten
 | [],i=>by simp[bN]
 |p::l,0=>by simp[bN]
 |p::l,i+1=>by obtain⟨b,h2⟩:=Ym l i;have e:(bN (p::l)).flatten=bh p++(bN l).flatten:=rfl;have d:F (bh p)=2:=rfl;rw[e,show(i+1)*2=F (bh p)+i*2 by rw[d];omega,List.take_length_add_append,List.drop_length_add_append,b,h2];exact⟨O,O⟩
def arf(l)(p)(i):(bN l).flatten.take (i*2)++bh p++(bN l).flatten.drop (i*2)=(bN (l.take i++p::l.drop i)).flatten:=by obtain⟨b,h2⟩:=Ym l i;rw[b,h2];unfold bN;rw[jB,eD,oi,jA,iE]
def adh(p):ff aa 33 1 [(0,.agg (bh p))]=J (.list .tight 2 [bh p]):=by kernel_rfl
def J5(h h':Heap)(x:U)(l:List (Int × Int))(p:Int × Int)(r:dO):Prop:=
 match oZ dN p.1 l with
 |some d=>if d=p then r=.ret x else r=.panic (kK 151)
 |none=>∃b,r=.ret (.arr b 0 (F l+1) (F l+1))/\F h.boxes<=b/\h'.boxes[b]?=J (bN (mO dN p l)).flatten
def amV(h:Heap)(k:Tok)(s:Nat)(l:List (Int × Int))(p:Int × Int)(m:l≠[]->s=2)(o:k=.nil->l=[])(g:Fi dN l)(hl:F l<1000000):
 ∃r h',SC.call 58 [.list k s (bN l),.agg (bh p),.func (.func 59) [] []] h=J (r,h')/\Ext h h'/\J5 h h' (.list k s (bN l)) l p r:=by
 have bp:=t_ p;have bf:=S6 59;obtain⟨q,d⟩:∃q,(h.push (bh p)).push [.func (.func 59) [] []]=q:=⟨_,O⟩;have S:Ext h q:=by rw[<-d];exact(Ext.push _ _).trans (.push _ _)
 have y:q.boxes[h.boxes.length]?=J (bh p):=by rw[<-d];exact aM (aK _ _)
 have j:q.boxes[(h.push (bh p)).boxes.length]?=J [.func (.func 59) [] []]:=by rw[<-d];exact aK _ _
 have n1:=bF h (bh p);rw[n1]at j;obtain⟨_,e,B,rfl,x3⟩:=aq3 q k s l p (F h.boxes+1) j m g M;have L2:=vh y;have L3:=vh (x3.box _ _ y);have sB:cH (.agg (bh p)) (.agg (bh p))=V:=by simp[cH,fL,gH,bh]
 have u33:=mZ;have z48:=xl;have eC:F (bN l)=F l:=by unfold bN;rw[br]
 have Y:=ae.mk (S.trans x3);have nK:=Be (pr:=lM) O;have tL:=Bd (pr:=lM) O;unfold J5;cases f:oZ dN p.1 l with
 |some z0=>
  have t:ni dN p.1 l=V:=by unfold ni;rw[f];rfl
  rw[t]at B;have E:l[iY dN p.1 l]?=J z0:=by
   unfold oZ at f;split at f
   .split at f
    .rename_i z2 _;rw[z2];exact f
    .cases f
   .cases f
  have dj:=(aS.1 E).1;have D:=m (by intro z3;rw[z3]at dj;simp at dj);subst D;have ld:=yU (H:=e) (s:=2) E;have eq:=λx z=>afW (x:=x) (y:=z) z0 p;generalize iY dN p.1 l=Z at *
  have fH:(Z:Int)<(F l:Int):=by omega
  clear f t E m o g y j S x3;by_cases u:z0=p
  .rw[bQ u]at eq;have N:=ae.mk u;clear u;refine bL O Ka O ?_;refine bA @ue @a_ @d @aT ?_;refine du jr bD ?_;refine bA @ue @a_ @d @aT ?_;exact⟨_,_,O,Y.out,by rw[av N.out]⟩
  .rw[b_ u]at eq;have N:=ae.mk u;clear u;refine bL O Ka O ?_;refine bA @ue @a_ @d @aT ?_;refine X7 (n:=6) O bD bD bD ?_;simp only[dw,cX];refine bA @ue @a_ @d (aj @aT (aj @su.{0} (aj @gw.{0} (aj @Vx (aj @Y1 @Y2))))) ?_;exact⟨_,_,O,Y.out,by rw[aP N.out]⟩
 |none=>
  have t:ni dN p.1 l=ai:=by unfold ni;rw[f];rfl
  rw[t]at B;have C:=Kq (k:=dN) p.1 l;have bl:=adh p;obtain⟨_,A,cc,⟨T,rfl,kk,s0,rfl,yu⟩|⟨T,rfl,rfl⟩⟩:=aew e k s l m o M
  .subst T;have Dk:iY dN p.1 ([]:List (Int × Int))=0:=rfl;rw[Dk]at B;have ci:SC.call 120 [.list kk s0 [],.v (.int .i64 ((0:Nat):Int)),.list .tight 2 [bh p]] A=_:=ajb (h:=A) (k:=.tight) (s0:=s0) (row:=bh p) yu;have kb:ae (F h.boxes<=F A.boxes):=⟨by have:=(aS.1 (x3.box _ _ j)).1;omega⟩;have X:=ae.mk (aK A (bh p));have R:=ae.mk (Y.out.trans (.push A (bh p)));clear f t m o g y j S x3 C nK tL;have el:bN ([]:List (Int × Int))=[]:=rfl;simp only[el]at B cc ⊢;generalize hB:bh p=z1 at *
   refine bL O Ka O ?_;refine cK @ue @a_ @d ?_;refine iC [(1,3)] jr bD (λz L=>?_) ?_
   .simp only[hY]at L;subst L;refine jP (x:=.ptr (.box (F h.boxes)) 0) (v:=.agg z1) bD O O O bD (sB) ?_ ?_<;>(simp only[dw,cX];exact dV @ue @and_self)
   refine cK @ue @a_ @d ?_;exact⟨_,_,O,R.out,_,O,kb.out,by rw[<-hB]at X;rw[<-hB];exact X.out⟩
  .have D:=m T;subst D;have uQ:=aK e (bN l).flatten;have ci:=aja (h:=e.push (bN l).flatten) (b:=e.boxes.length) (n:=l.length) (i:=iY dN p.1 l) (row:=bh p) (k:=.tight) uQ (by cases l with|nil=>exact absurd O T|cons _ _=>simp) hl C (OV l);rw[arf]at ci;have ei:l.take (iY dN p.1 l)++p::l.drop (iY dN p.1 l)=mO dN p l:=rfl;rw[ei]at ci;have L4:=vh (aM (cs:=(bN l).flatten) (x3.box _ _ y));have kb:ae (F h.boxes<=F (e.push (bN l).flatten).boxes):=⟨by have:=(aS.1 (x3.box _ _ j)).1;rw[bF];omega⟩;have X:ae ((((e.push (bN l).flatten).put (F e.boxes) []).push (bN (mO dN p l)).flatten).boxes[(e.push (bN l).flatten).boxes.length]?=J (bN (mO dN p l)).flatten):=⟨by
    have:=aK ((e.push (bN l).flatten).put (F e.boxes) []) (bN (mO dN p l)).flatten
    rwa [jd]at this⟩
   have R:ae (Ext h (((e.push (bN l).flatten).put (F e.boxes) []).push (bN (mO dN p l)).flatten)):=⟨((Y.out.trans (.push e _)).fy (by have:=(aS.1 (x3.box _ _ j)).1;omega) []).trans (.push _ _)⟩;clear f t m o g y j S x3 C nK tL uQ ei;generalize hB:bh p=z1 at *
   generalize iY dN p.1 l=Z at *
   generalize (bN l).flatten=PF at *
   generalize (bN (mO dN p l)).flatten=IF at *
   refine bL O Ka O ?_;refine cK @ue @a_ @d ?_;refine iC [(1,3)] jr bD (λz L=>?_) ?_
   .simp only[hY]at L;subst L;refine jP (x:=.ptr (.box (F h.boxes)) 0) (v:=.agg z1) bD O O O bD (sB) ?_ ?_<;>(simp only[dw,cX];exact dV @ue @and_self)
   refine cK @ue @a_ @d ?_;exact⟨_,_,O,R.out,_,O,kb.out,X.out⟩
def Em:Tryz.f109.results.toList=[.tmp 8]:=by kernel_rfl
def Ss{α:Type}{l:List α}{i}{y}(h:l[i]?=J y):l.drop i=y::l.drop (i+1):=by obtain⟨b,rfl⟩:=aS.1 h;exact List.drop_eq_getElem_cons b
def alL(h:Heap)(c:Ce)(a:CA)(ok:cD c a)(L:dz a)(Y:F c.who<=1000000)(T:pE c.who)(k:Tok)(s:Nat)(l:List Pr)(q:l≠[]->s=4)(hl:F l<=1000000):
 ∃r h',SC.call 109 [.agg (aq c a),.list k s (bH l),.func (.func 53) [] [],.func (.func 55) [] []] h=J (r,h')/\r=.ret (.v (.bool (eE (fV c.who) Pr.aU (-1) l)))/\Ext h h':=by
 have bx:=ok.cells;have u32:=kZ;have z46:=qh;have z:=zA;have bp:=λz1=>tZ z1;have N:F (bH l)=F l:=by unfold bH;rw[br]
 have kr:=ae.mk (λz1=>(Vq ok L Y T z1).call);have kl:=ae.mk q;have kld:ae (∀(H:Heap) z0,H.boxes[z0]?=J (aq c a)->aD aa Gt H 35 (.ptr (.box z0) 0)=J (.agg (aq c a))):=⟨λH z0 hb=>ju ok.len hb⟩;have u:=ae.mk (Ext.push h (aq c a));have t:=ae.mk (aK h (aq c a));clear ok L Y T q;generalize aq c a=z2 at *
 refine bL O Tryz.func109 O ?_;refine bE @Em @a_ ?_;refine bC.gen λg e p R S=>?_;have f2:g.get 2=.func (.func 53) [] []:=by rw[e];exact gS
 have f3:g.get 3=.func (.func 55) [] []:=by rw[e];exact gS
 have f4:g.get 4=.ptr (.box (F h.boxes)) 0:=by rw[e];exact gS
 have f9:g.get 9=.v (.int .i64 (-1)):=by rw[e];exact gS
 have f12:g.get 12=.list k s (bH l):=by rw[e];exact gS
 have f13:g.get 13=.v (.int .i64 (F l:Nat)):=by rw[e];simp only[gW,reduceIte,aJ,aB,N]
 have f14:g.get 14=.v (.int .i64 (0:Nat)):=by rw[e];exact gR
 have C:g.defers=[]:=by rw[p];exact gS
 clear e p R S;refine b9 (λz3 n H=>∃(i:Nat) (b:Int),i<=F l/\z3=F l-i/\ae (eE (fV c.who) Pr.aU b (l.drop i)=eE (fV c.who) Pr.aU (-1) l)/\n.get 2=.func (.func 53) [] []/\n.get 3=.func (.func 55) [] []/\n.get 4=.ptr (.box (F h.boxes)) 0/\n.get 9=.v (.int .i64 b)/\n.get 12=.list k s (bH l)/\n.get 13=.v (.int .i64 (F l:Nat))/\n.get 14=.v (.int .i64 (i:Nat))/\n.defers=[]/\ae (Ext h H)/\ae (H.boxes[h.boxes.length]?=J z2)) ?_ (F l) _ _ ?_;rotate_left 1
 .exact⟨0,-1,bV _,O,⟨O⟩,f2,f3,f4,f9,f12,f13,f14,C,u,t⟩
 clear f2 f3 f4 f9 f12 f13 f14 C u t;rintro z3 n H ⟨i,b,hi,rfl,Z,g2,g3,g4,g9,g12,g13,g14,hd,o,kb⟩;by_cases j:i<F l
 .have X:s=4:=kl.out (by intro z4;rw[z4]at j;simp at j);subst X;obtain⟨d,v⟩:∃d,l[i]?=J d:=⟨_,aN j⟩;have ld:=p_ (H:=H) (s:=4) v;have fH:(i:Int)<(F l:Int):=by omega
  have y:ae (eE (fV c.who) Pr.aU (-1) l=(fV c.who d&&decide (b<d.aU)&&eE (fV c.who) Pr.aU d.aU (l.drop (i+1)))):=⟨by rw[<-Z.out,Ss v,eE]⟩;have st:bY aa (H.push (aL ⟨0,0,0,0⟩)) 46 (.ptr (.box (F H.boxes)) 0) (.agg (aL d))=J (H.push (aL d)):=zr d;have c53:=kr.out d;have lD:=kld.out (H.push (aL d)) (F h.boxes) (aM kb.out);have l1:=nj (aK H (aL d));have l2:=nj (aM (cs:=aL d) (aK H (aL d)));have o1:=HE d (H.push (aL d));have o2:=HE d ((H.push (aL d)).push (aL d));have x1:=ae.mk (o.out.trans (.push H (aL d)));have x2:=ae.mk ((o.out.trans (.push H (aL d))).trans (.push _ (aL d)));have x3:=ae.mk (((o.out.trans (.push H (aL d))).trans (.push _ (aL d))).trans (.push _ (aL d)));have kb3:ae ((((H.push (aL d)).push (aL d)).push (aL d)).boxes[h.boxes.length]?=J z2):=⟨aM (aM (aM kb.out))⟩;clear v;generalize fV c.who d=z5 at *
  generalize hB:aL d=z6 at *
  generalize Tm:aL ⟨0,0,0,0⟩=B0 at *
  cases z5 with
  |false=>
   have m:ae (eE (fV c.who) Pr.aU (-1) l=ai):=⟨by rw[y.out];rfl⟩
   repeat' (first|simp(maxSteps:=9999999) (disch:=first|exact dZ|fail) only[gW,reduceIte,aJ,aB,Em,aT,ga,dM, *]|refine dX ?_ ?_<;>(intro _;try omega))
   all_goals exact⟨_,_,O,by rw[m.out],x1.out⟩
  |true=>
   by_cases B:d.aU<=b
   .have m:ae (eE (fV c.who) Pr.aU (-1) l=ai):=⟨by rw[y.out,b_ (M:¬b<d.aU)];rfl⟩;have d1:decide (d.aU<=b)=V:=bQ B
    repeat' (first|simp(maxSteps:=9999999) (disch:=first|exact dZ|fail) only[gW,reduceIte,aJ,aB,Em,aT,ga,dM, *]|refine dX ?_ ?_<;>(intro _;try omega))
    all_goals exact⟨_,_,O,by rw[m.out],x2.out⟩
   .have f:ae (eE (fV c.who) Pr.aU d.aU (l.drop (i+1))=eE (fV c.who) Pr.aU (-1) l):=⟨by rw[y.out,bQ (M:b<d.aU)];rfl⟩;have d1:decide (d.aU<=b)=ai:=b_ B
    repeat' (first|simp(maxSteps:=9999999) (disch:=first|exact dZ|fail) only[gW,reduceIte,aJ,aB,Em,aT,ga,dM, *]|refine dX ?_ ?_<;>(intro _;try omega))
    all_goals exact⟨F l-(i+1),by omega,i+1,d.aU,by omega,O,f,by simp,by first|exact x3|trivial,by first|exact kb3|trivial⟩
 .have:i=F l:=by omega
  subst this;have m:ae (eE (fV c.who) Pr.aU (-1) l=V):=⟨by rw[<-Z.out,Fl];rfl⟩
  repeat' (first|simp(maxSteps:=9999999) (disch:=first|exact dZ|fail) only[gW,reduceIte,aJ,aB,Em, *]|refine dX ?_ ?_<;>(intro _;try omega))
  all_goals exact⟨_,_,O,by rw[m.out],o.out⟩
def Zi:(fM aa 48).bind U.bG=J (bh (0,0)):=by kernel_rfl
def YM{H:Heap}(p):bY aa (H.push (bh (0,0))) 48 (.ptr (.box (F H.boxes)) 0) (.agg (bh p))=J (H.push (bh p)):=kL O xl O rfl
def En:Tryz.f110.results.toList=[.tmp 8]:=by kernel_rfl
def alM(h:Heap)(c:Ce)(a:CA)(ok:cD c a)(L:dz a)(Y:F c.who<=1000000)(T:pE c.who)(k:Tok)(s:Nat)(l:List (Int × Int))(q:l≠[]->s=2)(hl:F l<=1000000):
 ∃r h',SC.call 110 [.agg (aq c a),.list k s (bN l),.func (.func 57) [] [],.func (.func 59) [] []] h=J (r,h')/\r=.ret (.v (.bool (eE (fW c.who) dN (-1) l)))/\Ext h h':=by
 have bx:=ok.cells;have u33:=mZ;have z48:=xl;have z:=Zi;have bp:=λz1=>t_ z1;have N:F (bN l)=F l:=by unfold bN;rw[br]
 have kr:=ae.mk (λz1=>(Vr ok L Y T z1).call);have kl:=ae.mk q;have kld:ae (∀(H:Heap) z0,H.boxes[z0]?=J (aq c a)->aD aa Gt H 35 (.ptr (.box z0) 0)=J (.agg (aq c a))):=⟨λH z0 hb=>ju ok.len hb⟩;have u:=ae.mk (Ext.push h (aq c a));have t:=ae.mk (aK h (aq c a));clear ok L Y T q;generalize aq c a=z2 at *
 refine bL O Tryz.func110 O ?_;refine bE @En @a_ ?_;refine bC.gen λg e p R S=>?_;have f2:g.get 2=.func (.func 57) [] []:=by rw[e];exact gS
 have f3:g.get 3=.func (.func 59) [] []:=by rw[e];exact gS
 have f4:g.get 4=.ptr (.box (F h.boxes)) 0:=by rw[e];exact gS
 have f9:g.get 9=.v (.int .i64 (-1)):=by rw[e];exact gS
 have f12:g.get 12=.list k s (bN l):=by rw[e];exact gS
 have f13:g.get 13=.v (.int .i64 (F l:Nat)):=by rw[e];simp only[gW,reduceIte,aJ,aB,N]
 have f14:g.get 14=.v (.int .i64 (0:Nat)):=by rw[e];exact gR
 have C:g.defers=[]:=by rw[p];exact gS
 clear e p R S;refine b9 (λz3 n H=>∃(i:Nat) (b:Int),i<=F l/\z3=F l-i/\ae (eE (fW c.who) dN b (l.drop i)=eE (fW c.who) dN (-1) l)/\n.get 2=.func (.func 57) [] []/\n.get 3=.func (.func 59) [] []/\n.get 4=.ptr (.box (F h.boxes)) 0/\n.get 9=.v (.int .i64 b)/\n.get 12=.list k s (bN l)/\n.get 13=.v (.int .i64 (F l:Nat))/\n.get 14=.v (.int .i64 (i:Nat))/\n.defers=[]/\ae (Ext h H)/\ae (H.boxes[h.boxes.length]?=J z2)) ?_ (F l) _ _ ?_;rotate_left 1
 .exact⟨0,-1,bV _,O,⟨O⟩,f2,f3,f4,f9,f12,f13,f14,C,u,t⟩
 clear f2 f3 f4 f9 f12 f13 f14 C u t;rintro z3 n H ⟨i,b,hi,rfl,Z,g2,g3,g4,g9,g12,g13,g14,hd,o,kb⟩;by_cases j:i<F l
 .have X:s=2:=kl.out (by intro z4;rw[z4]at j;simp at j);subst X;obtain⟨d,v⟩:∃d,l[i]?=J d:=⟨_,aN j⟩;have ld:=yU (H:=H) (s:=2) v;have fH:(i:Int)<(F l:Int):=by omega
  have y:ae (eE (fW c.who) dN (-1) l=(fW c.who d&&decide (b<d.1)&&eE (fW c.who) dN d.1 (l.drop (i+1)))):=⟨by rw[<-Z.out,Ss v,eE]⟩;have st:bY aa (H.push (bh (0,0))) 48 (.ptr (.box (F H.boxes)) 0) (.agg (bh d))=J (H.push (bh d)):=YM d;have c57:=kr.out d;have lD:=kld.out (H.push (bh d)) (F h.boxes) (aM kb.out);have l1:=vh (aK H (bh d));have l2:=vh (aM (cs:=bh d) (aK H (bh d)));have o1:=HG d (H.push (bh d));have o2:=HG d ((H.push (bh d)).push (bh d));have x1:=ae.mk (o.out.trans (.push H (bh d)));have x2:=ae.mk ((o.out.trans (.push H (bh d))).trans (.push _ (bh d)));have x3:=ae.mk (((o.out.trans (.push H (bh d))).trans (.push _ (bh d))).trans (.push _ (bh d)));have kb3:ae ((((H.push (bh d)).push (bh d)).push (bh d)).boxes[h.boxes.length]?=J z2):=⟨aM (aM (aM kb.out))⟩;clear v;generalize fW c.who d=z5 at *
  generalize hB:bh d=z6 at *
  generalize Tm:bh (0,0)=B0 at *
  cases z5 with
  |false=>
   have m:ae (eE (fW c.who) dN (-1) l=ai):=⟨by rw[y.out];rfl⟩
   repeat' (first|simp(maxSteps:=9999999) (disch:=first|exact dZ|fail) only[gW,reduceIte,aJ,aB,En,aT,ga,dM, *]|refine dX ?_ ?_<;>(intro _;try omega))
   all_goals exact⟨_,_,O,by rw[m.out],x1.out⟩
  |true=>
   by_cases B:d.1<=b
   .have m:ae (eE (fW c.who) dN (-1) l=ai):=⟨by rw[y.out,b_ (M:¬b<d.1)];rfl⟩;have d1:decide (d.1<=b)=V:=bQ B
    repeat' (first|simp(maxSteps:=9999999) (disch:=first|exact dZ|fail) only[gW,reduceIte,aJ,aB,En,aT,ga,dM, *]|refine dX ?_ ?_<;>(intro _;try omega))
    all_goals exact⟨_,_,O,by rw[m.out],x2.out⟩
   .have f:ae (eE (fW c.who) dN d.1 (l.drop (i+1))=eE (fW c.who) dN (-1) l):=⟨by rw[y.out,bQ (M:b<d.1)];rfl⟩;have d1:decide (d.1<=b)=ai:=b_ B
    repeat' (first|simp(maxSteps:=9999999) (disch:=first|exact dZ|fail) only[gW,reduceIte,aJ,aB,En,aT,ga,dM, *]|refine dX ?_ ?_<;>(intro _;try omega))
    all_goals exact⟨F l-(i+1),by omega,i+1,d.1,by omega,O,f,by simp,by first|exact x3|trivial,by first|exact kb3|trivial⟩
 .have:i=F l:=by omega
  subst this;have m:ae (eE (fW c.who) dN (-1) l=V):=⟨by rw[<-Z.out,Fl];rfl⟩
  repeat' (first|simp(maxSteps:=9999999) (disch:=first|exact dZ|fail) only[gW,reduceIte,aJ,aB,En, *]|refine dX ?_ ?_<;>(intro _;try omega))
  all_goals exact⟨_,_,O,by rw[m.out],o.out⟩
def am6:Tryz.f108.results.toList=[.tmp 3]:=by kernel_rfl
def Bw:Tryz.f49.results.toList=[]:=by kernel_rfl
def Xl:Tryz.f48.results.toList=[]:=by kernel_rfl
def am9:Tryz.f14.results.toList=[.tmp 2]:=by kernel_rfl
def abX(h:Heap){c:Ce}{a:CA}(ok:cD c a)(b n:Nat)(d:h.boxes[b]?=J (aq c a)):SC.call 108 [.v (.int .i64 (n:Nat)),.ptr (.box b) 0] h=J (.ret (.v (.bool (decide (n=F c.who)))),h):=by
 obtain⟨-,-,e,-,-,-⟩:=hO ok d;obtain⟨-,-,f2,-,-⟩:=pN;have g:=cT;obtain⟨l,m,f,-⟩:=ok.w;have j:=cE c.who;rw[f]at e;have i:decide ((n:Int)=(F c.who:Int))=decide (n=F c.who):=by by_cases k:n=F c.who<;>simp[k];omega
 clear ok d f;refine cq O Tryz.func108 O ?_;exact iB @am6
def KJ(h:Heap)(c:Ce)(a:CA)(ok:cD c a)(k:dz a)(S:c.Fit):∃r h',SC.call 49 [.agg (aq c a)] h=J (r,h')/\r=j3 (eH c)/\Ext h h':=by
 have bx:=ok.cells;have z:=vN;have cn:=(Vo ok k S).call;obtain⟨-,-,m,-,A,B⟩:=S;obtain⟨e,b⟩:∃e,h.push (aq c a)=e:=⟨_,O⟩;have p:e.boxes[h.boxes.length]?=J (aq c a):=by rw[<-b];exact aK _ _
 obtain⟨l1,l2,l3,-,-,-⟩:=hO ok p;have z2:=pN;have s2:bY aa (e.push (aq c0 a0)) 35 (.ptr (.box (F e.boxes)) 0) (.agg (aq (gu c) (gt c a)))=J (e.push (aq (gu c) (gt c a))):=by rw[qg fK.len (rI ok).len (rI ok).cells (aK _ _)];congr 1;exact lO _ _ _
 obtain⟨i,d⟩:∃i,e.push (aq (gu c) (gt c a))=i:=⟨_,O⟩;have j:Ext h i:=by rw[<-d,<-b];exact(Ext.push _ _).trans (.push _ _)
 have q:i.boxes[h.boxes.length]?=J (aq c a):=by rw[<-d];exact aM p
 obtain⟨-,-,-,m4,m5,m6⟩:=hO ok q;have nK:=Be (pr:=lM) O;have tL:=Bd (pr:=lM) O;by_cases g:c.eM=0;rotate_left 1
 .have hE:eH c=440:=by unfold eH;rw[av g]
  have d1:decide (c.eM=0)=ai:=b_ g;have kx:=ae.mk j;rw[hE];clear ok k m A B p q j;generalize aq (gu c) (gt c a)=z1 at *
  generalize aq c a=z0 at *
  generalize aq c0 a0=Y at *
  generalize c.eM=ne at *
  unfold I at *
  refine bL O abi O ?_;refine bA @Bw @a_ @b @d ?_;exact⟨_,_,O,O,kx.out⟩
 have f:=(HP c.who (-1) (NI g)).2;obtain⟨kp,sp,R,u⟩:=ok.pa;obtain⟨kz,sz,ez,v⟩:=ok.z;obtain⟨_,T,Z,rfl,x3⟩:=alL i c a ok k m f kp sp c.bT u A;obtain⟨_,X,c110,rfl,L⟩:=alM T c a ok k m f kz sz c.parts v B;have C:=x3.box _ _ q;have E:=L.box _ _ C;obtain⟨-,-,-,n4,n5,n6⟩:=hO ok C;obtain⟨-,-,-,o4,o5,o6⟩:=hO ok E;rw[R]at m4 n4 o4;rw[ez]at m5 n5 o5;have u32:=kZ;have u33:=mZ;have il1:F (bH c.bT)=F c.bT:=by unfold bH;rw[br]
 have il2:=vG c.parts;have N:=abX X ok (F h.boxes) (F c.bT) E;have k3:=ae.mk (j.trans x3);have n:=ae.mk ((j.trans x3).trans L);rw[g]at cn;have s:eH c=if (eE (fV c.who) Pr.aU (-1) c.bT&&eE (fW c.who) dN (-1) c.parts)=ai then 440 else if F c.bT≠F c.who/\c.parts≠[] then 440 else 0:=by unfold eH;rw[aP (by simp[g])]
 rw[s];have t:decide ((F c.parts:Int)=0)=decide (c.parts=[]):=by cases c.parts<;>simp;omega
 clear ok k m A B p q j s g f u v R ez C E x3 L;generalize aq (gu c) (gt c a)=z1 at *
 generalize aq c a=z0 at *
 generalize aq c0 a0=Y at *
 generalize eE (fV c.who) Pr.aU (-1) c.bT=u1 at *
 generalize eE (fW c.who) dN (-1) c.parts=u2 at *
 generalize bH c.bT=PL1 at *
 generalize bN c.parts=SL1 at *
 unfold I at *
 refine bL O abi O ?_;cases u1 with
 |false=>
  repeat' (first|simp(maxSteps:=9999999) (disch:=first|exact dZ|fail) only[gW,reduceIte,aJ,aB,Bw,a_,b,d, *]|refine dX ?_ ?_<;>(intro _;try omega))
  all_goals exact⟨_,_,O,O,k3.out⟩
 |true=>
 cases u2 with
 |false=>
  repeat' (first|simp(maxSteps:=9999999) (disch:=first|exact dZ|fail) only[gW,reduceIte,aJ,aB,Bw,a_,b,d, *]|refine dX ?_ ?_<;>(intro _;try omega))
  all_goals exact⟨_,_,O,O,n.out⟩
 |true=>
 by_cases d1:F c.bT=F c.who
 .have y:decide (F c.bT=F c.who)=V:=bQ d1;rw[y]at N;have o:=ae.mk d1;clear d1
  repeat' (first|simp(maxSteps:=9999999) (disch:=first|exact dZ|fail) only[gW,reduceIte,aJ,aB,Bw,a_,b,d,dM,eu, *]|refine dX ?_ ?_<;>(intro _;try omega))
  all_goals exact⟨_,_,O,by simp[o.out,j3],n.out⟩
 .have y:decide (F c.bT=F c.who)=ai:=b_ d1;rw[y]at N;have o:=ae.mk d1;clear d1;by_cases d2:c.parts=[]
  .rw[bQ d2]at t;have l:=ae.mk d2;clear d2
   repeat' (first|simp(maxSteps:=9999999) (disch:=first|exact dZ|fail) only[gW,reduceIte,aJ,aB,Bw,a_,b,d,dM,eu, *]|refine dX ?_ ?_<;>(intro _;try omega))
   all_goals exact⟨_,_,O,by simp[o.out,l.out,j3],n.out⟩
  .rw[b_ d2]at t;have l:=ae.mk d2;clear d2
   repeat' (first|simp(maxSteps:=9999999) (disch:=first|exact dZ|fail) only[gW,reduceIte,aJ,aB,Bw,a_,b,d,dM,eu, *]|refine dX ?_ ?_<;>(intro _;try omega))
   all_goals exact⟨_,_,O,by simp[o.out,l.out,j3],n.out⟩
def KI(c):eH c=0∨eH c=440:=by
 unfold eH
 repeat' split
 all_goals first|exact .inl rfl|exact .inr rfl
def aek(h:Heap)(c:Ce)(a:CA)(ok:cD c a)(j:dz a)(g:c.Fit)(b:Nat)(i:h.boxes[b]?=J (aq c a)):∃r h',SC.call 48 [.ptr (.box b) 0] h=J (r,h')/\r=j3 (eH c)/\Ext h h':=by
 obtain⟨-,-,-,-,-,m⟩:=hO ok i;obtain⟨_,h2,d,rfl,x⟩:=KJ h c a ok j g;have k:=ae.mk x;clear ok j g i x;generalize aq c a=l at *
 refine bL O Tryz.func48 O ?_;rcases KI c with e|e
 .rw[e]at d ⊢;unfold j3 at *
  simp only[if_true]at d;refine bg @Xl ?_;exact⟨_,_,O,O,k.out⟩
 .rw[e]at d ⊢;have f:j3 440=.panic (kK 440):=rfl;rw[f]at d ⊢;refine bg @Xl ?_;exact⟨_,_,O,O,k.out⟩
def aei(h:Heap)(c:Ce)(a:CA)(ok:cD c a)(e:dz a)(d:c.Fit):∃r h',SC.call 14 [.agg (aq c a)] h=J (r,h')/\r=.ret (I (eH c)):=by
 have g:=ok.cells;obtain⟨_,h2,b,rfl,x⟩:=aek ((h.push (aq c a)).push [.v (.int .i64 0)]) c a ok e d (F h.boxes) (aM (aK _ _));obtain⟨i,f,-⟩:=FJ (pr:=lM) O 48 _ (h.push (aq c a)) h2 (eH c) b (x.box _ _ (aK _ _));clear ok e d x b;generalize aq c a=j at *
 generalize eH c=k at *
 unfold I;refine bL O Tryz.func14 O ?_;refine bE @am9 @a_ ?_;exact⟨_,_,O,O⟩
def jJ:Tryz.f15.results.toList=[.tmp 2]:=by kernel_rfl
def wD(s)(es)(i):dQ aa 46 (.elem s es i 0) 0=J (.elem s es i 0):=by kernel_rfl
def wE(s)(es)(i):dQ aa 48 (.elem s es i 0) 0=J (.elem s es i 0):=by kernel_rfl
def VH{H}{l}{i s}{p}(h:l[i]?=J p):aD aa Gt H 3 (.elem s (bH l) i 0)=J (.v (.int .i64 p.aU)):=by rw[oA dS (row:=aL p) (by unfold bH;rw[dW,h];rfl)];rfl
def VJ{H}{l}{i s}{p}(h:l[i]?=J p):aD aa Gt H 3 (.elem s (bN l) i 0)=J (.v (.int .i64 p.1)):=by rw[oA dS (row:=bh p) (by unfold bN;rw[dW,h];rfl)];rfl
def jK{α:Type}(o:α->Bool)(k:α->Int)(l:List α)(i:Nat):Bool:=match l[i]? with
 |some b=>o b&&(match i with|0=>V|d+1=>match l[d]? with|some x=>decide (k x<k b)|none=>V)
 |none=>V
def anM{α}{o}{k}(q:∀x,o x=V-> -1<k x):∀(l:List α) (d:Int),(∀y,l[0]?=J y->o y=V->d<k y)->(eE o k d l=V↔∀i,i<F l->jK o k l i=V):=by
 intro l
 induction l with
 |nil=>intro d _;exact⟨λ_ i j=>absurd j (mY _),λ_=>rfl⟩|cons x l m=>
  intro d n;rw[Bn];constructor
  .rintro⟨f,h2,e⟩ i j;have p:=(m (k x) (λy b r=>by
    cases l with
    |nil=>simp at b|cons z l=>simp at b;subst b;rw[Bn]at e;exact e.2.1)).1 e
   cases i with
   |zero=>unfold jK;simp[f]|succ i=>
    have g:=p i (by simpa using j);unfold jK at g ⊢;rw[jS];cases b:l[i]? with
    |none=>rfl|some y=>
     rw[b]at g;simp only[bm]at g ⊢;refine⟨g.1,?_⟩;cases i with
     |zero=>
      simp only[iF,decide_eq_true_eq];cases l with|nil=>simp at b|cons z l=>simp at b;subst b;rw[Bn]at e;exact e.2.1
     |succ i=>rw[jS];exact g.2
  .intro h;have f:=h 0 b7;unfold jK at f;simp at f;refine⟨f,n x O f,(m (k x) ?_).2 λi j=>?_⟩
   .intro y b _;have h2:=h 1 (by have:=(aS.1 b).1;simp;omega);unfold jK at h2;rw[jS,b]at h2;simp at h2;exact h2.2
   .have h2:=h (i+1) (by simpa using j);unfold jK at h2 ⊢;rw[jS]at h2;cases b:l[i]? with
    |none=>rfl|some y=>
     rw[b]at h2;simp only[bm]at h2 ⊢;refine⟨h2.1,?_⟩;cases i with|zero=>rfl|succ i=>have e:=h2.2;rw[jS]at e;exact e
end Go.Proofs.YtcbhpkjbiehcpaaGreatDoor
end
section
namespace Go.AE
open Go
def Code.tl:Nat->Code->Code
 |n+1,.seq _ b=>Code.tl n b
 |_,c=>c
def Code.Bz:Nat->Code->Code->Code
 |n+1,.seq a c,b=>.seq a (Code.Bz n c b)
 |0,_,b=>b
 |_,c,_=>c
def anT:∀(n:Nat) (c:Code),Code.Bz n c (Code.tl n c)=c:=by
 intro n
 induction n with
 |zero=>intro c;cases c<;>rfl
 |succ n b=>intro c;cases c<;>first|rfl|(simp only[Code.Bz,Code.tl,b])
def aqu(n){R}{c}{e}{h}{Q}(g:Env->Heap->Prop)(d:∀b,(∀e h,g e h->bC R b e h Q)->bC R (Code.Bz n c b) e h Q)(f:∀e h,g e h->bC R (Code.tl n c) e h Q):bC R c e h Q:=by
 have:=d _ f
 rwa [anT]at this
end Go.AE
end
section
namespace Go.Proofs.YtcbhpkjbiehcpaaGreatDoor
open Go.AE Go.NT
def WE{α}{o}{k}(b:∀x,o x=V-> -1<k x)(l:List α):eE o k (-1) l=V↔∀i,i<F l->jK o k l i=V:=anM b l (-1) λe _ d=>b e d
def aee{c}(e:c.eM=0)(d:¬(F c.bT<F c.who/\c.parts≠[])):(eH c=0/\eE (fV c.who) Pr.aU (-1) c.bT=V/\eE (fW c.who) dN (-1) c.parts=V)∨(eH c=440/\(eE (fV c.who) Pr.aU (-1) c.bT=ai∨eE (fW c.who) dN (-1) c.parts=ai)):=by
 unfold eH;rw[aP (by simp[e])];cases b:eE (fV c.who) Pr.aU (-1) c.bT with
 |false=>exact .inr ⟨O,.inl O⟩|true=>
  cases j:eE (fW c.who) dN (-1) c.parts with|false=>exact .inr ⟨O,.inr O⟩|true=>have i:=alJ b λx f=>XB (WD b x f).1;left;refine⟨?_,O,O⟩;rw[aP b7,aP];rintro⟨k,g⟩;exact d ⟨M,g⟩
def anB(h:Heap)(c:Ce)(a:CA)(ok:cD c a)(D:dz a)(fi:c.Fit):∃r h',SC.call 15 [.agg (aq c a)] h=J (r,h')/\r=.ret (I (eH c)):=by
 have bx:=ok.cells;have z:=vN;have z46:=qh;have cn:=(Vp ok D fi).call;obtain⟨-,-,fw,-,fp,ft⟩:=fi;obtain⟨R,u⟩:∃R,h.push (aq c a)=R:=⟨_,O⟩;have q0:R.boxes[h.boxes.length]?=J (aq c a):=by rw[<-u];exact aK _ _
 obtain⟨l1,l2,l3,-,-,-⟩:=hO ok q0;have z6:=pN;have s2:bY aa (R.push (aq c0 a0)) 35 (.ptr (.box (F R.boxes)) 0) (.agg (aq (gu c) (gt c a)))=J (R.push (aq (gu c) (gt c a))):=by rw[qg fK.len (rI ok).len (rI ok).cells (aK _ _)];congr 1;exact lO _ _ _
 obtain⟨H2,v⟩:∃H2,R.push (aq (gu c) (gt c a))=H2:=⟨_,O⟩;have r0:H2.boxes[h.boxes.length]?=J (aq c a):=by rw[<-v];exact aM q0
 obtain⟨-,-,m3,m4,m5,m6⟩:=hO ok r0;obtain⟨kw,sw,ew,-⟩:=ok.w;obtain⟨kp,sp,ep,Y⟩:=ok.pa;obtain⟨kz,sz,ez,Z⟩:=ok.z;have u23:=cT;have u32:=kZ;have u33:=mZ;have wZ:=cE c.who;have il1:F (bH c.bT)=F c.bT:=by unfold bH;rw[br]
 have il2:=vG c.parts;have t:decide ((F c.parts:Int)>0)=decide (c.parts≠[]):=by cases c.parts<;>simp
 have q:decide ((F c.bT:Int)<(F c.who:Int))=decide (F c.bT<F c.who):=by by_cases L:F c.bT<F c.who<;>simp[L]
 have kcp:=ae.mk (λz2=>(ajE ok D fw z2).call);have kcz:=ae.mk (λz2=>(ajG ok D fw z2).call);rw[ew]at m3 l3 cn;rw[ep]at m4;rw[ez]at m5;have ks:=ae.mk (aj Y Z);by_cases y:c.eM=0;rotate_left 1
 .have hE:eH c=440:=by unfold eH;rw[av y]
  have d1:decide (c.eM=0)=ai:=b_ y;rw[hE];clear ok D fw fp ft q0 r0 Y Z;generalize aq (gu c) (gt c a)=z4 at *
  generalize aq c a=z3 at *
  generalize aq c0 a0=Z0 at *
  generalize c.eM=ne at *
  unfold I at *
  refine bL O QA O ?_
  repeat' (first|simp(maxSteps:=9999999) (disch:=first|exact dZ|fail) only[gW,reduceIte,aJ,aB,jJ,a_,u,v, *]|refine dX ?_ ?_<;>(intro _;try omega))
  all_goals exact⟨_,_,O,O⟩
 have T:=ami (NI y);have wR:∀x,fV c.who x=V-> -1<x.aU:=λx m=>T _ (XB m);have ys:∀x,fW c.who x=V-> -1<x.1:=λx m=>T _ (an9 m);rw[y]at cn;by_cases hA:F c.bT<F c.who/\c.parts≠[]
 .have hE:eH c=440:=by
   unfold eH;rw[aP (by simp[y])];split
   .rfl
   .rw[av ⟨M,hA.2⟩]
  rw[bQ hA.1]at q;rw[bQ hA.2]at t;rw[hE];clear ok D fw fp ft q0 r0 Y Z hA y;generalize aq (gu c) (gt c a)=z4 at *
  generalize aq c a=z3 at *
  generalize aq c0 a0=Z0 at *
  unfold I at *
  refine bL O QA O ?_
  repeat' (first|simp(maxSteps:=9999999) (disch:=first|exact dZ|fail) only[gW,reduceIte,aJ,aB,jJ,a_,u,v, *]|refine dX ?_ ?_<;>(intro _;try omega))
  all_goals exact⟨_,_,O,O⟩
 have kE:=ae.mk (aee y hA);have kO1:=ae.mk (WE wR c.bT);have kO2:=ae.mk (WE ys c.parts);have B:decide (F c.bT<F c.who)=ai∨(decide (F c.bT<F c.who)=V/\decide (c.parts≠[])=ai):=by
  by_cases L:F c.bT<F c.who
  .right;exact⟨bQ L,b_ λX=>hA ⟨L,X⟩⟩
  .left;exact b_ L
 clear ok D fw q0 r0 Y Z hA y T wR ys;generalize aq (gu c) (gt c a)=z4 at *
 generalize aq c a=z3 at *
 generalize aq c0 a0=Z0 at *
 unfold I at *
 refine bL O QA O ?_;refine aqu 3 (λX K=>X.get 1=.ptr (.box (F h.boxes)) 0/\X.defers=[]/\K=H2) ?_ ?_
 .intro z5 hb;have kb:=ae.mk hb;clear hb;rcases B with z0|⟨z0,g2⟩
  .rw[z0]at q;clear z0 t
   repeat' (first|simp(maxSteps:=9999999) (disch:=first|exact dZ|fail) only[gW,reduceIte,aJ,aB,jJ,a_,u,v,Code.Bz, *]|refine dX ?_ ?_<;>(intro _;try omega))
   refine kb.out _ _ ⟨?_,?_,?_⟩<;>first|rfl|(simp only[gW,reduceIte,aJ,aB];done)|(exact gR)
  .rw[z0]at q;rw[g2]at t;clear z0 g2
   repeat' (first|simp(maxSteps:=9999999) (disch:=first|exact dZ|fail) only[gW,reduceIte,aJ,aB,jJ,a_,u,v,Code.Bz, *]|refine dX ?_ ?_<;>(intro _;try omega))
   refine kb.out _ _ ⟨?_,?_,?_⟩<;>first|rfl|(simp only[gW,reduceIte,aJ,aB];done)|(exact gR)
 simp only[Code.tl];rintro j K0 ⟨k1,kd,rfl⟩;clear B q t;refine bg @jJ ?_;refine bC.gen λS l A ek dm=>?_;have f1:S.get 1=.ptr (.box (F h.boxes)) 0:=by rw[l];simp only[gW,reduceIte,aJ,aB,k1]
 have f5:S.get 5=.v (.int .i64 (0:Nat)):=by rw[l];exact gR
 have fd:S.defers=[]:=by rw[A];simp only[gW,reduceIte,aJ,aB,kd]
 clear l A ek dm k1 kd;refine b9 (λz1 X H=>∃e:Nat,e<=F c.bT/\z1=F c.bT-e/\ae (∀b,b<e->jK (fV c.who) Pr.aU c.bT b=V)/\X.get 1=.ptr (.box (F h.boxes)) 0/\X.get 5=.v (.int .i64 (e:Nat))/\X.defers=[]/\H=K0) ?_ (F c.bT) _ _ ?_;rotate_left 1
 .exact⟨0,bV _,O,⟨λb p=>absurd p (mY _)⟩,f1,f5,fd,O⟩
 clear f1 f5 fd;rintro z1 X H ⟨e,hi,rfl,kP,g1,g5,hd,rfl⟩;by_cases k:e<F c.bT
 .have eo:sp=4:=ks.out.1 (by intro L;rw[L]at k;simp at k);subst eo;obtain⟨N,g⟩:∃N,c.bT[e]?=J N:=⟨_,aN k⟩;have ld:=p_ (H:=H) (s:=4) g;have lk:=VH (H:=H) (s:=4) g;have c50:=kcp.out N;have fH:(e:Int)<(F c.bT:Int):=by omega
  have d:ae (jK (fV c.who) Pr.aU c.bT e=ai->eH c=440):=⟨λL=>by
   rcases kE.out with⟨-,j,-⟩|⟨j,-⟩
   .have:=kO1.out.1 j e k;rw[L]at this;cases this
   .exact j⟩
  have i:ae (jK (fV c.who) Pr.aU c.bT e=V->∀b,b<e+1->jK (fV c.who) Pr.aU c.bT b=V):=⟨λL b p=>by
   rcases dp b e with w|w
   .exact kP.out b w
   .rw[(M:b=e)];exact L⟩
  cases f:fV c.who N with
  |false=>
   rw[f]at c50;have n:ae (eH c=440):=⟨d.out (by unfold jK;rw[g];simp only[f,ut])⟩;clear g f;refine cK @jJ @aT @wD ?_;refine du jr bD ?_
   repeat' (first|simp(maxSteps:=9999999) (disch:=first|exact dZ|fail) only[gW,reduceIte,aJ,aB,jJ,aT,wD, *]|refine dX ?_ ?_<;>(intro _;try omega))
   all_goals exact⟨_,_,O,by rw[n.out]⟩
  |true=>
   rw[f]at c50;by_cases h0:e=0
   .subst h0;have o:=ae.mk (i.out (by unfold jK;rw[g];simp only[f,mq]));clear g f;refine cK @jJ @aT @wD ?_;refine du jr bD ?_
    repeat' (first|simp(maxSteps:=9999999) (disch:=first|exact dZ|fail) only[gW,reduceIte,aJ,aB,jJ,aT,wD, *]|refine dX ?_ ?_<;>(intro _;try omega))
    all_goals exact⟨F c.bT-1,by omega,0+1,by omega,O,o,by simp⟩
   .obtain⟨b,rfl⟩:∃b,e=b+1:=⟨e-1,by omega⟩;obtain⟨x,m⟩:∃x,c.bT[b]?=J x:=⟨_,aN M⟩;have lj:=VH (H:=H) (s:=4) m;have LV:decide (((b+1:Nat):Int)>0)=V:=bQ M;have ML:((b+1:Nat):Int)-1=((b:Nat):Int):=(by omega);have Up:((b:Nat):Int)<(F c.bT:Int):=(by omega);have C:jK (fV c.who) Pr.aU c.bT (b+1)=decide (x.aU<N.aU):=(by unfold jK;rw[g];simp only[f,m,mq]);rw[C]at d i;clear g f m C;by_cases c1:x.aU<N.aU
    .have d1:decide (x.aU>=N.aU)=ai:=b_ M;have o:=ae.mk (i.out (bQ c1));clear i d;refine cK @jJ @aT @wD ?_;refine du jr bD ?_
     repeat' (first|simp(maxSteps:=9999999) (disch:=first|exact dZ|fail) only[gW,reduceIte,aJ,aB,jJ,aT,wD, *]|refine dX ?_ ?_<;>(intro _;try omega))
     all_goals exact⟨F c.bT-(b+1+1),by omega,b+1+1,by omega,O,o,by simp⟩
    .have d1:decide (x.aU>=N.aU)=V:=bQ M;have n:=ae.mk (d.out (b_ c1));clear i d;refine cK @jJ @aT @wD ?_;refine du jr bD ?_
     repeat' (first|simp(maxSteps:=9999999) (disch:=first|exact dZ|fail) only[gW,reduceIte,aJ,aB,jJ,aT,wD, *]|refine dX ?_ ?_<;>(intro _;try omega))
     all_goals exact⟨_,_,O,by rw[n.out]⟩
 have gf:e=F c.bT:=by omega
 subst gf;have kA1:ae (eE (fV c.who) Pr.aU (-1) c.bT=V):=⟨kO1.out.2 λb p=>kP.out b p⟩;clear kP kO1;refine bg @jJ ?_;refine bC.gen λS l A ek dm=>?_;have f1:S.get 1=.ptr (.box (F h.boxes)) 0:=by rw[l];simp only[gW,reduceIte,aJ,aB,g1]
 have f6:S.get 6=.v (.int .i64 (0:Nat)):=by rw[l];exact gR
 have fd:S.defers=[]:=by rw[A];simp only[gW,reduceIte,aJ,aB,hd]
 clear l A ek dm g1 g5 hd;refine b9 (λz1 X K=>∃e:Nat,e<=F c.parts/\z1=F c.parts-e/\ae (∀b,b<e->jK (fW c.who) dN c.parts b=V)/\X.get 1=.ptr (.box (F h.boxes)) 0/\X.get 6=.v (.int .i64 (e:Nat))/\X.defers=[]/\K=H) ?_ (F c.parts) _ _ ?_;rotate_left 1
 .exact⟨0,bV _,O,⟨λb p=>absurd p (mY _)⟩,f1,f6,fd,O⟩
 clear f1 f6 fd;rintro z1 X K ⟨e,hi,rfl,kP,g1,g6,hd,rfl⟩;by_cases k:e<F c.parts
 .have eo:sz=2:=ks.out.2 (by intro L;rw[L]at k;simp at k);subst eo;obtain⟨N,g⟩:∃N,c.parts[e]?=J N:=⟨_,aN k⟩;have ld:=yU (H:=K) (s:=2) g;have lk:=VJ (H:=K) (s:=2) g;have c51:=kcz.out N;have z48:=xl;have fH:(e:Int)<(F c.parts:Int):=by omega
  have d:ae (jK (fW c.who) dN c.parts e=ai->eH c=440):=⟨λL=>by
   rcases kE.out with⟨-,-,j⟩|⟨j,-⟩
   .have:=kO2.out.1 j e k;rw[L]at this;cases this
   .exact j⟩
  have i:ae (jK (fW c.who) dN c.parts e=V->∀b,b<e+1->jK (fW c.who) dN c.parts b=V):=⟨λL b p=>by
   rcases dp b e with w|w
   .exact kP.out b w
   .rw[(M:b=e)];exact L⟩
  cases f:fW c.who N with
  |false=>
   rw[f]at c51;have n:ae (eH c=440):=⟨d.out (by unfold jK;rw[g];simp only[f,ut])⟩;clear g f;refine cK @jJ @aT @wE ?_;refine du jr bD ?_
   repeat' (first|simp(maxSteps:=9999999) (disch:=first|exact dZ|fail) only[gW,reduceIte,aJ,aB,jJ,aT,wE, *]|refine dX ?_ ?_<;>(intro _;try omega))
   all_goals exact⟨_,_,O,by rw[n.out]⟩
  |true=>
   rw[f]at c51;by_cases h0:e=0
   .subst h0;have o:=ae.mk (i.out (by unfold jK;rw[g];simp only[f,mq]));clear g f;refine cK @jJ @aT @wE ?_;refine du jr bD ?_
    repeat' (first|simp(maxSteps:=9999999) (disch:=first|exact dZ|fail) only[gW,reduceIte,aJ,aB,jJ,aT,wE, *]|refine dX ?_ ?_<;>(intro _;try omega))
    all_goals exact⟨F c.parts-1,by omega,0+1,by omega,O,o,by simp⟩
   .obtain⟨b,rfl⟩:∃b,e=b+1:=⟨e-1,by omega⟩;obtain⟨x,m⟩:∃x,c.parts[b]?=J x:=⟨_,aN M⟩;have lj:=VJ (H:=K) (s:=2) m;have LV:decide (((b+1:Nat):Int)>0)=V:=bQ M;have ML:((b+1:Nat):Int)-1=((b:Nat):Int):=(by omega);have Up:((b:Nat):Int)<(F c.parts:Int):=(by omega);have C:jK (fW c.who) dN c.parts (b+1)=decide (x.1<N.1):=(by unfold jK;rw[g];simp only[f,m,mq]);rw[C]at d i;clear g f m C;by_cases c1:x.1<N.1
    .have d1:decide (x.1>=N.1)=ai:=b_ M;have o:=ae.mk (i.out (bQ c1));clear i d;refine cK @jJ @aT @wE ?_;refine du jr bD ?_
     repeat' (first|simp(maxSteps:=9999999) (disch:=first|exact dZ|fail) only[gW,reduceIte,aJ,aB,jJ,aT,wE, *]|refine dX ?_ ?_<;>(intro _;try omega))
     all_goals exact⟨F c.parts-(b+1+1),by omega,b+1+1,by omega,O,o,by simp⟩
    .have d1:decide (x.1>=N.1)=V:=bQ M;have n:=ae.mk (d.out (b_ c1));clear i d;refine cK @jJ @aT @wE ?_;refine du jr bD ?_
     repeat' (first|simp(maxSteps:=9999999) (disch:=first|exact dZ|fail) only[gW,reduceIte,aJ,aB,jJ,aT,wE, *]|refine dX ?_ ?_<;>(intro _;try omega))
     all_goals exact⟨_,_,O,by rw[n.out]⟩
 have gf:e=F c.parts:=by omega
 subst gf;have kA2:eE (fW c.who) dN (-1) c.parts=V:=kO2.out.2 λb p=>kP.out b p;have po:ae (eH c=0):=⟨by
  rcases kE.out with⟨j,-⟩|⟨-,j|j⟩
  .exact j
  .rw[kA1.out]at j;cases j
  .rw[kA2]at j;cases j⟩
 clear kA2;refine bg @jJ ?_;exact⟨_,_,O,by rw[po.out]⟩
def Et:Tryz.f52.results.toList=[]:=by kernel_rfl
def ana:Tryz.f16.results.toList=[.cell 4 35,.tmp 5]:=by kernel_rfl
def Bx:Tryz.f56.results.toList=[]:=by kernel_rfl
def anc:Tryz.f18.results.toList=[.cell 4 35,.tmp 5]:=by kernel_rfl
section
variable {c:Ce} {a:CA} {x:U}
def aef(ok:cD c a):dC (aq c a) 46 [x]=aq c {a with Pa:=x}:=by
 have b:=ok.d.len;have d:aq c a=(aF c.ep a.X a.Y a.C++ba c.doc a.p a.r a.n++[a.W])++[a.Pa]++[a.Z]:=by unfold aq;simp
 rw[d,EQ (B:=[a.Pa]) (B':=[x]) (by simp only[cg,b];rfl) O];unfold aq;simp
def aeg(ok:cD c a):dC (aq c a) 47 [x]=aq c {a with Z:=x}:=by
 have b:=ok.d.len;have d:aq c a=(aF c.ep a.X a.Y a.C++ba c.doc a.p a.r a.n++[a.W,a.Pa])++[a.Z]++[]:=by unfold aq;simp
 rw[d,EQ (B:=[a.Z]) (B':=[x]) (by simp only[cg,b];rfl) O];unfold aq;simp
def RS(ok:cD c a){x y:U}:F (aq c {a with Pa:=x,Z:=y})=48:=by unfold aq;rw[cg,cg,ok.d.len];unfold aF;rfl
def RR(ok:cD c a){x y:U}(e:x.cW=V)(f:y.cW=V):(U.agg (aq c {a with Pa:=x,Z:=y})).bG=J (aq c {a with Pa:=x,Z:=y}):=by
 have b:=mP (ep:=c.ep) ok.x ok.y ok.cm;have h2:=ok.d.cells;have d:a.W.cW=V:=by obtain⟨k,l,j,-⟩:=ok.w;rw[j];rfl
 unfold U.bG at *
 simp only at b h2 ⊢;split at b
 .split at h2
  .rename_i g i;rw[av];unfold aq;rw[sn,sn,g,i];simp[d,e,f]
  .cases h2
 .cases b
def asT:cB aa 32=J 1:=by kernel_rfl
def asU:cB aa 33=J 1:=by kernel_rfl
def arU{H:Heap}{b:Nat}(ok:cD c a)(e:x.bG=J [x])(d:H.boxes[b]?=J (aq c a)):bY aa H 32 (.ptr (.box b) 46) x=J (H.put b (aq c {a with Pa:=x})):=by rw[fE e asT d O (by have:=ok.len;omega),aef ok]
def stZ{H:Heap}{b:Nat}(ok:cD c a)(e:x.bG=J [x])(d:H.boxes[b]?=J (aq c a)):bY aa H 33 (.ptr (.box b) 47) x=J (H.put b (aq c {a with Z:=x})):=by rw[fE e asU d O (by have:=ok.len;omega),aeg ok]
end
def uE(h:Heap)(x y:U)(flat:List U)(n:Nat):Prop:=x=y∨∃b,x=.arr b 0 n n/\0<n/\h.boxes[b]?=J flat
def HY{h f:Heap}{d}{D D2}(j:∀b cs,b≠d->h.boxes[b]?=J cs->f.boxes[b]?=J cs)(g:d<F f.boxes):(∀b cs,b≠d->h.boxes[b]?=J cs->((f.put d D).put d D2).boxes[b]?=J cs)/\((f.put d D).put d D2).boxes[d]?=J D2:=
 ⟨λb cs e i=>by rw[cr e,cr e];exact j b cs e i,dn (by simpa [Heap.put] using g)⟩
def Xd{f:Heap}{b e}{D D2 cs}(d:b≠e)(g:f.boxes[b]?=J cs):((f.put e D).put e D2).boxes[b]?=J cs:=by rw[cr d,cr d];exact g
def Q8{c:Ce}(h:c.eM=0):pE c.who:=(HP c.who (-1) (NI h)).2
def alW(h:Heap)(c:Ce)(a:CA)(ok:cD c a)(N:dz a)(L:c.Fit)(na:F c.bT<1000000)(i:∀s es,a.Pa=.list .nil s es->es=[])(p:Pr)(b0 b1 m:Nat)(n0:b0≠m)(n1:b1≠m)(k:h.boxes[b0]?=J (aq c a))(q:h.boxes[b1]?=J (aL p))(g:h.boxes[m]?=J (aq c0 a0))(e:Int)(l:List Pr)(d:mg c p=(e,l)):
 ∃r h',SC.call 52 [.ptr (.box b0) 0,.ptr (.box b1) 0,.ptr (.box m) 0] h=J (r,h')/\r=j3 e/\(∀b cs,b≠m->h.boxes[b]?=J cs->h'.boxes[b]?=J cs)
  /\∃x,h'.boxes[m]?=J (if e=0 then aq c {a with Pa:=x} else aq c0 a0)/\(e=0->x.cW=V/\uE h' x a.Pa (bH l).flatten (F l)/\(x=a.Pa->l=c.bT)):=by
 have bx:=ok.cells;have bp:=tZ p;obtain⟨_,h2,X,rfl,f⟩:=KJ h c a ok N L;obtain⟨-,-,-,-,-,l0⟩:=hO ok k;obtain⟨-,-,-,m4,-,m0⟩:=hO ok (f.box _ _ k);have mp:=nj (f.box _ _ q);have z4:=pN;have nK:=Be (pr:=lM) O;have tL:=Bd (pr:=lM) O;unfold mg at d;by_cases t:eH c=0;rotate_left 1
 .have e4:eH c=440:=(KI c).resolve_left t;rw[av t]at d;obtain⟨rfl,rfl⟩:=eW d;have R:=ae.mk λb cs (_:b≠m) hq=>f.box b cs hq;have j:=ae.mk (f.box _ _ g);rw[e4]at X;have C:j3 440=.panic (kK 440):=rfl;rw[C]at X;clear ok N L k q g f i m4 mp;generalize aq c a=z1 at *
  generalize aq c0 a0=Z0 at *
  refine bL O FB O ?_;refine bg @Et ?_;exact⟨_,_,O,O,R.out,nl,j.out,λz0=>by cases z0⟩
 rw[aP (by simpa using t)]at d;rw[t]at X;have e0:j3 0=.ret (.tuple []):=rfl;rw[e0]at X;obtain⟨Z,ho,-,-⟩:=RT.1 t;obtain⟨kp,Y,v,y⟩:=ok.pa;have c53:=(Vq ok N L.2.2.1 (Q8 Z) p).call;cases A:fV c.who p with
 |false=>
  rw[av A]at d;obtain⟨rfl,rfl⟩:=eW d;rw[A]at c53;have R:=ae.mk λb cs (_:b≠m) hq=>f.box b cs hq;have j:=ae.mk (f.box _ _ g);have C:j3 420=.panic (kK 420):=rfl;clear ok N L k q g f i m4 t Z ho y v A;generalize aq c a=z1 at *
  generalize aq c0 a0=Z0 at *
  generalize aL p=z2 at *
  refine bL O FB O ?_;refine bg @Et ?_;exact⟨_,_,O,C.symm,R.out,nl,j.out,λz0=>by cases z0⟩
 |true=>
 rw[aP (by simp[A])]at d;rw[A]at c53;obtain⟨r3,h3,c54,x3,o⟩:=amU h2 kp Y c.bT p y (λz0=>by
  have:=i Y (bH c.bT) (by rw[v,z0]);cases hl:c.bT with
  |nil=>rfl|cons a b=>rw[hl]at this;cases this) (λz5 z6 x z3 hi hj hl=>WC ho hi hj hl) na
 have r0:=x3.box _ _ (f.box _ _ k);have S:=x3.box _ _ (f.box _ _ g);obtain⟨-,-,-,-,-,n0'⟩:=hO ok r0;have s1:=qg fK.len ok.len ok.cells S;have R:=ae.mk λb cs (hb:b≠m) hq=>x3.box b cs (f.box b cs hq);have r4:(h3.put m (aq c a)).boxes[m]?=J (aq c a):=dn (aS.1 S).1;have T:=λ(x:U) hx=>arU (x:=x) ok hx r4;have B:=ae.mk (aS.1 S).1;rw[v]at m4;unfold HX at d;unfold J4 at o;have e151:j3 151=.panic (kK 151):=rfl;cases hf:oZ Pr.aU p.aU c.bT with
 |some z3=>
  rw[hf]at o d;simp only at o d;by_cases E:z3=p
  .rw[av E]at o d;obtain⟨rfl,rfl⟩:=eW d;subst o;have T:=T (.list kp Y (bH c.bT)) O;have j:=ae.mk (HY (D:=aq c a) (D2:=aq c {a with Pa:=.list kp Y (bH c.bT)}) R.out B.out);have kep:=ae.mk v;clear ok N L k q g f x3 i t Z ho y v A r0 S r4 hf E d B;obtain⟨u,n⟩:∃u,aq c {a with Pa:=.list kp Y (bH c.bT)}=u:=⟨_,O⟩;rw[n]at T j;have kD:=ae.mk n;clear n;generalize aq c a=z1 at *
   generalize aq c0 a0=Z0 at *
   generalize aL p=z2 at *
   refine bL O FB O ?_;refine bg @Et ?_;exact⟨_,_,O,O,j.out.1,.list kp Y (bH c.bT),by rw[j.out.2,<-kD.out],λ_=>⟨O,.inl kep.out.symm,λ_=>trivial⟩⟩
  .rw[aP E]at o d;obtain⟨rfl,rfl⟩:=eW d;subst o;have j:=ae.mk S;clear ok N L k q g f x3 i t Z ho y v A r0 S r4 hf E d B s1 T;generalize aq c a=z1 at *
   generalize aq c0 a0=Z0 at *
   generalize aL p=z2 at *
   refine bL O FB O ?_;refine bg @Et ?_;exact⟨_,_,O,e151.symm,R.out,nl,j.out,λz0=>by cases z0⟩
 |none=>
  rw[hf]at o d;simp only at o d;obtain⟨b,rfl,pg,pS⟩:=o;obtain⟨rfl,rfl⟩:=eW d;have T:=T (.arr b 0 (F c.bT+1) (F c.bT+1)) O;have Lv:b≠m:=by have:=(aS.1 (f.box _ _ g)).1;omega
  have j:=ae.mk (HY (D:=aq c a) (D2:=aq c {a with Pa:=.arr b 0 (F c.bT+1) (F c.bT+1)}) R.out B.out);have kP:=ae.mk (Xd (D:=aq c a) (D2:=aq c {a with Pa:=.arr b 0 (F c.bT+1) (F c.bT+1)}) Lv pS);have kne:ae (U.arr b 0 (F c.bT+1) (F c.bT+1)≠a.Pa):=⟨by rw[v];intro z0;cases z0⟩;have kl:ae (F (mO Pr.aU p c.bT)=F c.bT+1):=⟨U7 p c.bT⟩;clear ok N L k q g f x3 i t Z ho y v A r0 S r4 hf d B pg pS;obtain⟨u,n⟩:∃u,aq c {a with Pa:=.arr b 0 (F c.bT+1) (F c.bT+1)}=u:=⟨_,O⟩;rw[n]at T j kP;have kD:=ae.mk n;clear n;generalize aq c a=z1 at *
  generalize aq c0 a0=Z0 at *
  generalize aL p=z2 at *
  refine bL O FB O ?_;refine bg @Et ?_;exact⟨_,_,O,O,j.out.1,.arr b 0 (F c.bT+1) (F c.bT+1),by rw[j.out.2,<-kD.out],λ_=>⟨O,.inr ⟨b,by rw[kl.out],by rw[kl.out];omega,kP.out⟩,λz0=>absurd z0 kne.out⟩⟩
def uE.pm{h h'}{x y}{flat}{n z B:Nat}{w}(j:2<=z)(g:F flat=n*z)(i:uE h x y flat n)(d:h.boxes[B]?=J [w])(k:∀b cs,b≠B->h.boxes[b]?=J cs->h'.boxes[b]?=J cs):uE h' x y flat n:=by
 rcases i with l|⟨b,m,f,e⟩
 .exact .inl l
 .refine .inr ⟨b,m,f,k b _ (λl=>?_) e⟩;subst l;rw[e]at d;injection d with d;have:=congrArg F d;rw[g]at this;have h2:1*2<=n*z:=ji f j;simp only[List.length_singleton]at this;omega
def alU(h:Heap)(c:Ce)(a:CA)(ok:cD c a)(v:dz a)(t:c.Fit)(n:F c.bT<1000000)(f:∀s es,a.Pa=.list .nil s es->es=[])(p:Pr)(e:Int)(l:List Pr)(u:mg c p=(e,l)):
 ∃r h',SC.call 16 [.agg (aq c a),.agg (aL p)] h=J (r,h')/\∃x,r=.ret (.tuple [.agg (if e=0 then aq c {a with Pa:=x} else aq c0 a0),I e])/\(e=0->uE h' x a.Pa (bH l).flatten (F l)/\(x=a.Pa->l=c.bT)):=by
 have Y:=ok.cells;have Z:=tZ p;have z:=vN;obtain⟨b,d⟩:∃b,((h.push (aq c a)).push (aL p)).push (aq c0 a0)=b:=⟨_,O⟩;have l3:F b.boxes=F h.boxes+3:=by rw[<-d];simp[bF]
 have B:b.boxes[h.boxes.length]?=J (aq c a):=by rw[<-d];exact aM (aM (aK _ _))
 have C:b.boxes[F h.boxes+1]?=J (aL p):=by rw[<-d];refine aM ?_;have:=aK (h.push (aq c a)) (aL p);rwa [bF]at this
 have E:b.boxes[F h.boxes+2]?=J (aq c0 a0):=by rw[<-d];have:=aK ((h.push (aq c a)).push (aL p)) (aq c0 a0);rwa [bF,bF]at this
 obtain⟨_,h2,k,rfl,A,x,L,g⟩:=alW (b.push [.v (.int .i64 0)]) c a ok v t n f p (F h.boxes) (F h.boxes+1) (F h.boxes+2) M M (aM B) (aM C) (aM E) e l u;have q:h2.boxes[b.boxes.length]?=J [.v (.int .i64 0)]:=A _ _ M (aK _ _);obtain⟨R,T,o⟩:=FJ (pr:=lM) O 52 _ b h2 e k q;have j:=o _ _ M L;have i:F (if e=0 then aq c {a with Pa:=x} else aq c0 a0)=48:=by
  split
  .exact RS ok (x:=x) (y:=a.Z)
  .exact fK.len
 have m:(U.agg (if e=0 then aq c {a with Pa:=x} else aq c0 a0)).bG=J (if e=0 then aq c {a with Pa:=x} else aq c0 a0):=by
  split
  .rename_i N;exact RR ok (x:=x) (y:=a.Z) (g N).1 (by obtain⟨z2,s,e,-⟩:=ok.z;rw[e];rfl)
  .exact fK.cells
 have ld:=ju i j;have st:=qg i i m j;rw[kC j]at st;have S:ae (e=0->uE R x a.Pa (bH l).flatten (F l)/\(x=a.Pa->l=c.bT)):=⟨λN=>⟨(g N).2.1.pm (z:=4) M (NS l) q o,(g N).2.2⟩⟩;have n1:F (h.push (aq c a)).boxes=F h.boxes+1:=bF _ _;have n2:F ((h.push (aq c a)).push (aL p)).boxes=F h.boxes+2:=by rw[bF,bF]
 clear A k L q o B C E j ok g u v t n f i;clear m;generalize aq c a=z1 at *
 generalize aq c0 a0=X at *
 generalize aL p=z0 at *
 unfold I at *
 refine bL O Tryz.func16 O ?_;refine bE @ana @d ?_;exact⟨_,_,O,x,O,S.out⟩
def amc(h:Heap)(c:Ce)(a:CA)(ok:cD c a)(L:dz a)(C:c.Fit)(na:F c.parts<1000000)(i:∀s es,a.Z=.list .nil s es->es=[])(p:Int × Int)(b0 b1 m:Nat)(n0:b0≠m)(n1:b1≠m)(k:h.boxes[b0]?=J (aq c a))(o:h.boxes[b1]?=J (bh p))(g:h.boxes[m]?=J (aq c0 a0))(e:Int)(l:List (Int × Int))(d:mS c p=(e,l)):
 ∃r h',SC.call 56 [.ptr (.box b0) 0,.ptr (.box b1) 0,.ptr (.box m) 0] h=J (r,h')/\r=j3 e/\(∀b cs,b≠m->h.boxes[b]?=J cs->h'.boxes[b]?=J cs)
  /\∃x,h'.boxes[m]?=J (if e=0 then aq c {a with Z:=x} else aq c0 a0)/\(e=0->x.cW=V/\uE h' x a.Z (bN l).flatten (F l)/\(x=a.Z->l=c.parts)):=by
 have bx:=ok.cells;have bp:=t_ p;obtain⟨_,h2,c49,rfl,f⟩:=KJ h c a ok L C;obtain⟨-,-,-,-,-,l0⟩:=hO ok k;obtain⟨-,-,w4,p4,m4,m0⟩:=hO ok (f.box _ _ k);have mp:=(yT (f.box _ _ o)).2.2;have z3:=pN;have u23:=cT;have u32:=kZ;obtain⟨kw,sw,ew,-⟩:=ok.w;obtain⟨kq,sq,eq,-⟩:=ok.pa;rw[ew]at w4;rw[eq]at p4;clear ew eq;have wZ:=cE c.who;have il1:F (bH c.bT)=F c.bT:=by unfold bH;rw[br]
 have TW:decide ((F c.bT:Int)=(F c.who:Int))=decide (F c.bT=F c.who):=by by_cases T:F c.bT=F c.who<;>simp[T];omega
 have nK:=Be (pr:=lM) O;have tL:=Bd (pr:=lM) O;unfold mS at d;by_cases t:eH c=0;rotate_left 1
 .have e4:eH c=440:=(KI c).resolve_left t;rw[av t]at d;obtain⟨rfl,rfl⟩:=eW d;have A:=ae.mk λb cs (_:b≠m) hq=>f.box b cs hq;have j:=ae.mk (f.box _ _ g);rw[e4]at c49;have S:j3 440=.panic (kK 440):=rfl;rw[S]at c49;clear ok L C k o g f i m4 mp;generalize aq c a=z0 at *
  generalize aq c0 a0=Z0 at *
  refine bL O Cx O ?_;refine bg @Bx ?_;exact⟨_,_,O,O,A.out,nl,j.out,λT=>by cases T⟩
 rw[aP (by simpa using t)]at d;rw[t]at c49;have e0:j3 0=.ret (.tuple []):=rfl;rw[e0]at c49;obtain⟨hN,-,ho,-⟩:=RT.1 t;obtain⟨kp,sp,v,u⟩:=ok.z;have c57:=(Vr ok L C.2.2.1 (Q8 hN) p).call;cases y:fW c.who p with
 |false=>
  rw[av y]at d;obtain⟨rfl,rfl⟩:=eW d;rw[y]at c57;have A:=ae.mk λb cs (_:b≠m) hq=>f.box b cs hq;have j:=ae.mk (f.box _ _ g);have S:j3 400=.panic (kK 400):=rfl;clear ok L C k o g f i m4 t hN ho u v y;generalize aq c a=z0 at *
  generalize aq c0 a0=Z0 at *
  generalize bh p=z1 at *
  refine bL O Cx O ?_;refine bg @Bx ?_;exact⟨_,_,O,S.symm,A.out,nl,j.out,λT=>by cases T⟩
 |true=>
 rw[aP (by simp[y])]at d;rw[y]at c57;by_cases N:F c.bT=F c.who;rotate_left 1
 .rw[av N]at d;obtain⟨rfl,rfl⟩:=eW d;rw[b_ N]at TW;have A:=ae.mk λb cs (_:b≠m) hq=>f.box b cs hq;have j:=ae.mk (f.box _ _ g);have e420:j3 420=.panic (kK 420):=rfl;clear ok L C k o g f i m4 t hN ho u v y N;generalize aq c a=z0 at *
  generalize aq c0 a0=Z0 at *
  generalize bh p=z1 at *
  generalize bH c.bT=PL1 at *
  refine bL O Cx O ?_
  repeat' (first|simp(maxSteps:=9999999) (disch:=first|exact dZ|fail) only[gW,reduceIte,aJ,aB,Bx, *]|refine dX ?_ ?_<;>(intro _;try omega))
  all_goals exact⟨_,_,O,e420.symm,A.out,nl,j.out,λT=>by cases T⟩
 rw[aP (by simpa using N)]at d;rw[bQ N]at TW;obtain⟨r3,h3,c54,x3,q⟩:=amV h2 kp sp c.parts p u (λT=>by
  have:=i sp (bN c.parts) (by rw[v,T]);cases hl:c.parts with
  |nil=>rfl|cons a b=>rw[hl]at this;cases this) (λz4 z5 x z2 hi hj hl=>WC ho hi hj hl) na
 have r0:=x3.box _ _ (f.box _ _ k);have X:=x3.box _ _ (f.box _ _ g);obtain⟨-,-,-,-,-,n0'⟩:=hO ok r0;have s1:=qg fK.len ok.len ok.cells X;have A:=ae.mk λb cs (hb:b≠m) hq=>x3.box b cs (f.box b cs hq);have r4:(h3.put m (aq c a)).boxes[m]?=J (aq c a):=dn (aS.1 X).1;have Y:=λ(x:U) hx=>stZ (x:=x) ok hx r4;have R:=ae.mk (aS.1 X).1;rw[v]at m4;unfold HX at d;unfold J5 at q;have e151:j3 151=.panic (kK 151):=rfl;cases hf:oZ dN p.1 c.parts with
 |some z2=>
  rw[hf]at q d;simp only at q d;by_cases E:z2=p
  .rw[av E]at q d;obtain⟨rfl,rfl⟩:=eW d;subst q;have Y:=Y (.list kp sp (bN c.parts)) O;have j:=ae.mk (HY (D:=aq c a) (D2:=aq c {a with Z:=.list kp sp (bN c.parts)}) A.out R.out);have kep:=ae.mk v;clear ok L C k o g f x3 i t hN ho u v y r0 X r4 hf E d R;obtain⟨B,n⟩:∃B,aq c {a with Z:=.list kp sp (bN c.parts)}=B:=⟨_,O⟩;rw[n]at Y j;have kD:=ae.mk n;clear n;generalize aq c a=z0 at *
   generalize aq c0 a0=Z0 at *
   generalize bh p=z1 at *
   refine bL O Cx O ?_;refine bg @Bx ?_;exact⟨_,_,O,O,j.out.1,.list kp sp (bN c.parts),by rw[j.out.2,<-kD.out],λ_=>⟨O,.inl kep.out.symm,λ_=>trivial⟩⟩
  .rw[aP E]at q d;obtain⟨rfl,rfl⟩:=eW d;subst q;have j:=ae.mk X;clear ok L C k o g f x3 i t hN ho u v y r0 X r4 hf E d R s1 Y;generalize aq c a=z0 at *
   generalize aq c0 a0=Z0 at *
   generalize bh p=z1 at *
   refine bL O Cx O ?_;refine bg @Bx ?_;exact⟨_,_,O,e151.symm,A.out,nl,j.out,λT=>by cases T⟩
 |none=>
  rw[hf]at q d;simp only at q d;obtain⟨b,rfl,pg,pS⟩:=q;obtain⟨rfl,rfl⟩:=eW d;have Y:=Y (.arr b 0 (F c.parts+1) (F c.parts+1)) O;have Lv:b≠m:=by have:=(aS.1 (f.box _ _ g)).1;omega
  have j:=ae.mk (HY (D:=aq c a) (D2:=aq c {a with Z:=.arr b 0 (F c.parts+1) (F c.parts+1)}) A.out R.out);have kP:=ae.mk (Xd (D:=aq c a) (D2:=aq c {a with Z:=.arr b 0 (F c.parts+1) (F c.parts+1)}) Lv pS);have kne:ae (U.arr b 0 (F c.parts+1) (F c.parts+1)≠a.Z):=⟨by rw[v];intro T;cases T⟩;have kl:ae (F (mO dN p c.parts)=F c.parts+1):=⟨U7 p c.parts⟩;clear ok L C k o g f x3 i t hN ho u v y r0 X r4 hf d R pg pS;obtain⟨B,n⟩:∃B,aq c {a with Z:=.arr b 0 (F c.parts+1) (F c.parts+1)}=B:=⟨_,O⟩;rw[n]at Y j kP;have kD:=ae.mk n;clear n;generalize aq c a=z0 at *
  generalize aq c0 a0=Z0 at *
  generalize bh p=z1 at *
  refine bL O Cx O ?_;refine bg @Bx ?_;exact⟨_,_,O,O,j.out.1,.arr b 0 (F c.parts+1) (F c.parts+1),by rw[j.out.2,<-kD.out],λ_=>⟨O,.inr ⟨b,by rw[kl.out],by rw[kl.out];omega,kP.out⟩,λT=>absurd T kne.out⟩⟩
def ama(h:Heap)(c:Ce)(a:CA)(ok:cD c a)(v:dz a)(t:c.Fit)(n:F c.parts<1000000)(f:∀s es,a.Z=.list .nil s es->es=[])(p:Int × Int)(e:Int)(l:List (Int × Int))(u:mS c p=(e,l)):
 ∃r h',SC.call 18 [.agg (aq c a),.agg (bh p)] h=J (r,h')/\∃x,r=.ret (.tuple [.agg (if e=0 then aq c {a with Z:=x} else aq c0 a0),I e])/\(e=0->uE h' x a.Z (bN l).flatten (F l)/\(x=a.Z->l=c.parts)):=by
 have Y:=ok.cells;have b2:=t_ p;have z:=vN;obtain⟨b,d⟩:∃b,((h.push (aq c a)).push (bh p)).push (aq c0 a0)=b:=⟨_,O⟩;have l3:F b.boxes=F h.boxes+3:=by rw[<-d];simp[bF]
 have B:b.boxes[h.boxes.length]?=J (aq c a):=by rw[<-d];exact aM (aM (aK _ _))
 have C:b.boxes[F h.boxes+1]?=J (bh p):=by rw[<-d];refine aM ?_;have:=aK (h.push (aq c a)) (bh p);rwa [bF]at this
 have E:b.boxes[F h.boxes+2]?=J (aq c0 a0):=by rw[<-d];have:=aK ((h.push (aq c a)).push (bh p)) (aq c0 a0);rwa [bF,bF]at this
 obtain⟨_,h2,k,rfl,A,x,L,g⟩:=amc (b.push [.v (.int .i64 0)]) c a ok v t n f p (F h.boxes) (F h.boxes+1) (F h.boxes+2) M M (aM B) (aM C) (aM E) e l u;have q:h2.boxes[b.boxes.length]?=J [.v (.int .i64 0)]:=A _ _ M (aK _ _);obtain⟨R,T,o⟩:=FJ (pr:=lM) O 56 _ b h2 e k q;have j:=o _ _ M L;have i:F (if e=0 then aq c {a with Z:=x} else aq c0 a0)=48:=by
  split
  .exact RS ok (x:=a.Pa) (y:=x)
  .exact fK.len
 have m:(U.agg (if e=0 then aq c {a with Z:=x} else aq c0 a0)).bG=J (if e=0 then aq c {a with Z:=x} else aq c0 a0):=by
  split
  .rename_i N;exact RR ok (x:=a.Pa) (y:=x) (by obtain⟨z2,s,e,-⟩:=ok.pa;rw[e];rfl) (g N).1
  .exact fK.cells
 have ld:=ju i j;have st:=qg i i m j;rw[kC j]at st;have S:ae (e=0->uE R x a.Z (bN l).flatten (F l)/\(x=a.Z->l=c.parts)):=⟨λN=>⟨(g N).2.1.pm (z:=2) M (OV l) q o,(g N).2.2⟩⟩;have n1:F (h.push (aq c a)).boxes=F h.boxes+1:=bF _ _;have n2:F ((h.push (aq c a)).push (bh p)).boxes=F h.boxes+2:=by rw[bF,bF]
 clear A k L q o B C E j ok g u v t n f i;clear m;generalize aq c a=z1 at *
 generalize aq c0 a0=X at *
 generalize bh p=z0 at *
 unfold I at *
 refine bL O Tryz.func18 O ?_;refine bE @anc @d ?_;exact⟨_,_,O,x,O,S.out⟩
def am5:Tryz.f10.results.toList=[.tmp 2]:=by kernel_rfl
def Io{z}:∀(L:List (List U)) (A:List U),(∀r∈L,F r=z)->nr z (A++L.flatten) (F A) (F L)=L
 | [],_,_=>rfl
 |r::L,A,h=>by
  have b:=h r (.head _);have d:=Io L (A++r) λg e=>h g (.tail _ e);unfold nr at *
  rw[dY,List.range_succ_eq_map,eD,zK,jA];congr 1
  .rw[Nat.zero_mul,Nat.add_zero,Ci];rw[List.take_left' b]
  .rw[iE,cg,b]at d
   conv=>rhs;rw[<-d]
   refine List.map_congr_left λf _=>?_;simp only[Function.comp,aaW];rw[(M:F A+(f*z+z)=F A+z+f*z)]
def al6(l):nr 4 (bH l).flatten 0 (F l)=bH l:=by have:=Io (z:=4) (bH l) [] (by intro e b;unfold bH at b;obtain⟨d,-,rfl⟩:=iV.1 b;rfl);rw[dM,show(F (bH l))=F l by unfold bH;rw[br]]at this;exact this
def arh(l):nr 2 (bN l).flatten 0 (F l)=bN l:=by have:=Io (z:=2) (bN l) [] (by intro e b;unfold bN at b;obtain⟨d,-,rfl⟩:=iV.1 b;rfl);rw[dM,vG]at this;exact this
def af4(h:Heap){c:Ce}{a:CA}(ok:cD c a)(g:dz a):∃r h',SC.call 10 [.agg (aq c a)] h=J (r,h')/\∃b,r=.ret (.v (.bool b))/\(b=V->F c.rows<=80/\F c.ac<=80/\F c.ah<=80/\F c.doc.pa<=20/\F c.doc.rv<=20/\F c.doc.nd<=20/\F c.who<=80/\F c.bT<=20/\F c.parts<=20):=by
 have s:=ok.cells;obtain⟨b,f,d⟩:=Vk ok g;have d:=d.call;obtain⟨y,A,B,j,k,-⟩:=hO ok (aK h (aq c a));have R:=pN;have p:=kZ;have q:=mZ;obtain⟨u,E,e,-⟩:=ok.pa;obtain⟨v,L,ez,-⟩:=ok.z;rw[e]at j;rw[ez]at k;have n:F (bH c.bT)=F c.bT:=by unfold bH;rw[br]
 have o:=vG c.parts;have i:=ae.mk f;clear ok g f e ez;generalize aq c a=N at *
 generalize bH c.bT=l at *
 generalize bN c.parts=m at *
 refine bL O Tryz.func10 O ?_
 repeat' (first|simp(maxSteps:=9999999) (disch:=first|exact dZ|fail) only[gW,reduceIte,aJ,aB,am5,a_, *]|refine dX ?_ ?_<;>(intro _;try omega))
 all_goals exact⟨_,_,O,_,O,λC=>by
  first
   |(have t:=i.out (by assumption);simp only[decide_eq_true_eq]at *;omega)
   |(simp at C)⟩
def LD:List aQ:=LC++[14,15,10]
def ZD(g:aQ):Nat:=if g=16 then 4 else if g=18 then 2 else 0
noncomputable def HU:aQ->Option (List U->Heap->Option (U × Heap)):=lJ SC LD ZD tS
noncomputable abbrev SD:=whole aa Gt HU
def KF:lW HU LD:=λd b=>⟨tW SC d,by unfold HU lJ;rw[av (by simpa using b)];rfl⟩
structure rg(a:CA):Prop where
 pa:∀s es,a.Pa=.list .nil s es->es=[]
 z:∀s es,a.Z=.list .nil s es->es=[]
def lL(c:Ce)(p:Pr):Ce:=if (mg c p).1=0 then {c with bT:=(mg c p).2} else c0
def nQ(c:Ce)(p:Int × Int):Ce:=if (mS c p).1=0 then {c with parts:=(mS c p).2} else c0
def GQ:∀l:List Pr,dk (bH l)=bH l
 | []=>rfl
 |p::l=>by show aZ (aL p)::dk (bH l)=_;rw[GQ l];rfl
def Mo:∀l:List (Int × Int),dk (bN l)=bN l
 | []=>rfl
 |p::l=>by show aZ (bh p)::dk (bN l)=_;rw[Mo l];rfl
def Wj:rg a0:=⟨λ_ _ h=>by cases h;rfl,λ_ _ h=>by cases h;rfl⟩
section
variable {c:Ce} {a:CA} {z:Nat} {h:Heap}
def nM{x:U}{k:Tok}{s:Nat}{es:List (List U)}(e:x=.list k s es)(b:al x=x):hJ z h x=x:=by subst e;rw[al]at b;injection b with d h2 f;rw[hJ,d]
def Hh:∀a b:List U,ng z h (a++b)=ng z h a++ng z h b
 | [],_=>rfl
 |x::a,b=>by rw[eu,ng,Hh a b];rfl
def aiJ(l:List UInt8):ng z h (l.map fA)=l.map fA:=by
 induction l with
 |nil=>rfl|cons d l b=>show hJ z h (fA d)::ng z h (l.map fA)=_;rw[b];rfl
def Af(ok:cD c a)(b:dz a){x y d e:U}(n:hJ z h x=d)(o:hJ z h y=e):ng z h (aq c {a with Pa:=x,Z:=y})=aq c {a with Pa:=d,Z:=e}:=by obtain⟨p,A,T,f,-⟩:=ok.x.form;obtain⟨q,B,g,-⟩:=ok.y;obtain⟨r,C,i,-⟩:=ok.cm;obtain⟨s,L,j,-⟩:=ok.d.p;obtain⟨t,N,k,-⟩:=ok.d.r;obtain⟨u,R,l,-⟩:=ok.d.n;obtain⟨v,S,m,-⟩:=ok.w;unfold aq aF ba;rw[Hh,Hh,Hh,aiJ];simp only[ng,nM f b.X,nM g b.Y,nM i b.C,nM j b.p,nM k b.r,nM l b.n,nM m b.W,n,o];rfl
def ajF(ok:cD c a)(b:dz a)(l:rg a)(s:c.Fit)(m:F c.bT<1000000)(p:Pr):∃e,cD (lL c p) e/\dz e/\rg e/\∀h,SD.call 16 [.agg (aq c a),.agg (aL p)] h=J (.ret (.tuple [.agg (aq (lL c p) e),I (mg c p).1]),h):=by
 obtain⟨X,t,B,x,rfl,u⟩:=alU ⟨[],[],0,[]⟩ c a ok b s m l.pa p (mg c p).1 (mg c p).2 O;have n:aZ [U.agg (aq c a),.agg (aL p)]=[.agg (aq c a),.agg (aL p)]:=by simp only[aZ,al,oo b,HS]
 have y:aA 0 0 0 [U.agg (aq c a),.agg (aL p)]=V:=by simp only[aA,au,lm ok b];rfl
 obtain⟨N,S,ez,-⟩:=ok.z;have d:∀(e:CA),cD (lL c p) e->dz e->ng 4 t (if (mg c p).1=0 then aq c {a with Pa:=x} else aq c0 a0)=aq (lL c p) e->∀h,SD.call 16 [.agg (aq c a),.agg (aL p)] h=J (.ret (.tuple [.agg (aq (lL c p) e),I (mg c p).1]),h):=by
  intro e g f o;refine V8 (z:=3) (L:=LD) O O n y B ?_ ?_
  .simp only[hJ,ng,o];rfl
  .simp[au,aA,lm g f,I]
 by_cases i:(mg c p).1=0
 .rw[av i]at d;have k:lL c p={c with bT:=(mg c p).2}:=by unfold lL;rw[av i]
  rw[k]at d ⊢;obtain⟨j,C⟩:=u i;rcases j with j|⟨T,rfl,A,v⟩
  .have q:=C j;rw[q]at d ⊢;obtain⟨E,R,r,-⟩:=ok.pa;exact⟨a,ok,b,l,d a ok b (by rw[j];exact Af ok b (nM r b.Pa) (nM ez b.Z))⟩
  .have g:cD {c with bT:=(mg c p).2} {a with Pa:=.list .held 4 (bH (mg c p).2)}:=⟨ok.x,ok.y,ok.cm,ok.d,ok.w,⟨.held,4,O,λ_=>rfl⟩,ok.z⟩;have f:dz {a with Pa:=.list .held 4 (bH (mg c p).2)}:=⟨b.X,b.Y,b.C,b.p,b.r,b.n,b.W,by simp only[al,GQ];rfl,b.Z⟩;refine⟨_,g,f,⟨λ_ _ B=>(by cases B),l.z⟩,d _ g f ?_⟩;refine Af ok b ?_ (nM ez b.Z);rw[hJ,v];simp only;rw[av ⟨by rw[NS];omega,by omega⟩,al6]
 .rw[aP i]at d;have k:lL c p=c0:=by unfold lL;rw[aP i]
  rw[k]at d ⊢;exact⟨a0,fK,wO,Wj,d a0 fK wO (Af fK wO (nM O O) (nM O O))⟩
def ajH(ok:cD c a)(b:dz a)(l:rg a)(s:c.Fit)(n:F c.parts<1000000)(p:Int × Int):∃e,cD (nQ c p) e/\dz e/\rg e/\∀h,SD.call 18 [.agg (aq c a),.agg (bh p)] h=J (.ret (.tuple [.agg (aq (nQ c p) e),I (mS c p).1]),h):=by
 obtain⟨X,t,B,x,rfl,u⟩:=ama ⟨[],[],0,[]⟩ c a ok b s n l.z p (mS c p).1 (mS c p).2 O;have o:aZ [U.agg (aq c a),.agg (bh p)]=[.agg (aq c a),.agg (bh p)]:=by simp only[aZ,al,oo b];rfl
 have y:aA 0 0 0 [U.agg (aq c a),.agg (bh p)]=V:=by simp only[aA,au,lm ok b];rfl
 obtain⟨E,R,m,-⟩:=ok.pa;have d:∀(e:CA),cD (nQ c p) e->dz e->ng 2 t (if (mS c p).1=0 then aq c {a with Z:=x} else aq c0 a0)=aq (nQ c p) e->∀h,SD.call 18 [.agg (aq c a),.agg (bh p)] h=J (.ret (.tuple [.agg (aq (nQ c p) e),I (mS c p).1]),h):=by
  intro e g f q;refine V8 (z:=1) (L:=LD) O O o y B ?_ ?_
  .simp only[hJ,ng,q];rfl
  .simp[au,aA,lm g f,I]
 by_cases i:(mS c p).1=0
 .rw[av i]at d;have k:nQ c p={c with parts:=(mS c p).2}:=by unfold nQ;rw[av i]
  rw[k]at d ⊢;obtain⟨j,C⟩:=u i;rcases j with j|⟨T,rfl,A,v⟩
  .have r:=C j;rw[r]at d ⊢;obtain⟨N,S,ez,-⟩:=ok.z;exact⟨a,ok,b,l,d a ok b (by rw[j];exact Af ok b (nM m b.Pa) (nM ez b.Z))⟩
  .have g:cD {c with parts:=(mS c p).2} {a with Z:=.list .held 2 (bN (mS c p).2)}:=⟨ok.x,ok.y,ok.cm,ok.d,ok.w,ok.pa,⟨.held,2,O,λ_=>rfl⟩⟩;have f:dz {a with Z:=.list .held 2 (bN (mS c p).2)}:=⟨b.X,b.Y,b.C,b.p,b.r,b.n,b.W,b.Pa,by simp only[al,Mo];rfl⟩;refine⟨_,g,f,⟨l.pa,λ_ _ B=>by cases B⟩,d _ g f ?_⟩;refine Af ok b (nM m b.Pa) ?_;rw[hJ,v];simp only;rw[av ⟨by rw[OV];omega,by omega⟩,arh]
 .rw[aP i]at d;have k:nQ c p=c0:=by unfold nQ;rw[aP i]
  rw[k]at d ⊢;exact⟨a0,fK,wO,Wj,d a0 fK wO (Af fK wO (nM O O) (nM O O))⟩
def Vj(ok:cD c a)(b:dz a)(d:c.Fit):bK SD 14 [.agg (aq c a)] (I (eH c)):=by obtain⟨_,_,e,rfl⟩:=aei ⟨[],[],0,[]⟩ c a ok b d;exact bK.qc (L:=LD) e O (by simp only[aZ,al,oo b]) (by simp only[aA,au,lm ok b];rfl) O rfl
def ajM(ok:cD c a)(b:dz a)(d:c.Fit):bK SD 15 [.agg (aq c a)] (I (eH c)):=by obtain⟨_,_,e,rfl⟩:=anB ⟨[],[],0,[]⟩ c a ok b d;exact bK.qc (L:=LD) e O (by simp only[aZ,al,oo b]) (by simp only[aA,au,lm ok b];rfl) O rfl
def ajz(ok:cD c a)(d:dz a):∃b,(b=V->F c.rows<=80/\F c.ac<=80/\F c.ah<=80/\F c.doc.pa<=20/\F c.doc.rv<=20/\F c.doc.nd<=20/\F c.who<=80/\F c.bT<=20/\F c.parts<=20)/\bK SD 10 [.agg (aq c a)] (.v (.bool b)):=by obtain⟨_,_,f,b,rfl,e⟩:=af4 ⟨[],[],0,[]⟩ ok d;exact⟨b,e,bK.qc (L:=LD) f O (by simp only[aZ,al,oo d]) (by simp only[aA,au,lm ok d];rfl) O O⟩
end
def If:Tryz.f22.results.toList=[.tmp 4]:=by kernel_rfl
def Ia:Tryz.f107.results.toList=[.tmp 4]:=by kernel_rfl
def Ig:Tryz.f47.results.toList=[.tmp 4]:=by kernel_rfl
def aqN(h:Heap){x y:U}{l:List Int}(n:IL x l)(o:IL y l)(N:F l<=1000000):∃r h',SD.call 22 [x,y] h=J (r,h')/\h'=h/\r=.ret (.v (.bool V)):=by
 obtain⟨R,s,rfl,g⟩:=n;obtain⟨p,k,rfl,d⟩:=o;have j:=ae.mk (aj g d);clear g d;have v:=cT;have T:=eR;have t:=cE l;refine bL O Tryz.func22 O ?_;refine bg @If ?_;refine b9 (λu f H=>∃e:Nat,e<=F l/\u=F l-e/\f.get 0=.list R s (ints l)/\f.get 1=.list p k (ints l)/\f.get 5=.v (.int .i64 (e:Nat))/\f.defers=[]/\H=h) ?_ (F l) _ _ ?_;rotate_left 1
 .refine⟨0,bV _,O,?_,?_,?_,?_,O⟩<;>exact gR
 rintro u f H ⟨e,L,rfl,A,B,C,D,rfl⟩;by_cases b:e<F l
 .have i:s=1:=j.out.1 (by intro q;rw[q]at b;simp at b);have d:k=1:=j.out.2 (by intro q;rw[q]at b;simp at b);subst i;subst d;have S:=eJ (H:=H) (s:=1) b;have m:(e:Int)<(F l:Int):=by omega
  generalize ag l e=X at *
  refine bE @If @aT ?_;refine du KF bD ?_
  repeat' (first|simp(maxSteps:=9999999) (disch:=first|exact dZ|fail) only[gW,reduceIte,aJ,aB,If,aT, *]|refine dX ?_ ?_<;>(intro _;try omega))
  all_goals exact⟨F l-(e+1),by omega,e+1,by omega,O,by simp⟩
 .have:e=F l:=by omega
  subst this;refine bg @If ?_;exact⟨_,_,O,O,O⟩
def aqL(h:Heap){x y:U}{l:List Int}(n:IL x l)(o:IL y l)(N:F l<=1000000):∃r h',SD.call 107 [x,y] h=J (r,h')/\h'=h/\r=.ret (.v (.bool V)):=by
 obtain⟨R,s,rfl,g⟩:=n;obtain⟨p,k,rfl,d⟩:=o;have j:=ae.mk (aj g d);clear g d;have v:=cT;have T:=eR;have t:=cE l;refine bL O Tryz.func107 O ?_;refine bg @Ia ?_;refine b9 (λu f H=>∃e:Nat,e<=F l/\u=F l-e/\f.get 0=.list R s (ints l)/\f.get 1=.list p k (ints l)/\f.get 5=.v (.int .i64 (e:Nat))/\f.defers=[]/\H=h) ?_ (F l) _ _ ?_;rotate_left 1
 .refine⟨0,bV _,O,?_,?_,?_,?_,O⟩<;>exact gR
 rintro u f H ⟨e,L,rfl,A,B,C,D,rfl⟩;by_cases b:e<F l
 .have i:s=1:=j.out.1 (by intro q;rw[q]at b;simp at b);have d:k=1:=j.out.2 (by intro q;rw[q]at b;simp at b);subst i;subst d;have S:=eJ (H:=H) (s:=1) b;have m:(e:Int)<(F l:Int):=by omega
  generalize ag l e=X at *
  refine bE @Ia @aT ?_;refine du KF bD ?_
  repeat' (first|simp(maxSteps:=9999999) (disch:=first|exact dZ|fail) only[gW,reduceIte,aJ,aB,Ia,aT, *]|refine dX ?_ ?_<;>(intro _;try omega))
  all_goals exact⟨F l-(e+1),by omega,e+1,by omega,O,by simp⟩
 .have:e=F l:=by omega
  subst this;refine bg @Ia ?_;exact⟨_,_,O,O,O⟩
def aqQ(h:Heap){x y:U}{l:List Pr}(o:PL x l)(f:PL y l)(S:F l<=1000000):∃r h',SD.call 47 [x,y] h=J (r,h')/\h'=h/\r=.ret (.v (.bool V)):=by
 obtain⟨T,t,rfl,i⟩:=o;obtain⟨p,m,rfl,d⟩:=f;have k:=ae.mk (aj i d);clear i d;have A:=kZ;have B:=qh;have u:F (bH l)=F l:=by unfold bH;rw[br]
 refine bL O Tryz.func47 O ?_;refine bg @Ig ?_;refine b9 (λv g H=>∃e:Nat,e<=F l/\v=F l-e/\g.get 0=.list T t (bH l)/\g.get 1=.list p m (bH l)/\g.get 5=.v (.int .i64 (e:Nat))/\g.defers=[]/\H=h) ?_ (F l) _ _ ?_;rotate_left 1
 .refine⟨0,bV _,O,?_,?_,?_,?_,O⟩<;>exact gR
 rintro v g H ⟨e,R,rfl,C,D,L,N,rfl⟩;by_cases b:e<F l
 .have j:t=4:=k.out.1 (by intro s;rw[s]at b;simp at b);have d:m=4:=k.out.2 (by intro s;rw[s]at b;simp at b);subst j;subst d;obtain⟨y,f⟩:∃y,l[e]?=J y:=⟨_,aN b⟩;have X:=p_ (H:=H) (s:=4) f;have q:=λx z=>ala (x:=x) (y:=z) y y;rw[bQ O]at q;have n:(e:Int)<(F l:Int):=by omega
  clear f;generalize aL y=Y at *
  refine bE @Ig @aT ?_;refine du KF bD ?_
  repeat' (first|simp(maxSteps:=9999999) (disch:=first|exact dZ|fail) only[gW,reduceIte,aJ,aB,Ig,aT, *]|refine dX ?_ ?_<;>(intro _;try omega))
  all_goals exact⟨F l-(e+1),by omega,e+1,by omega,O,by simp⟩
 .have:e=F l:=by omega
  subst this;refine bg @Ig ?_;exact⟨_,_,O,O,O⟩
def afX(d)(a b):cV aa (Op.equalIn (d+1) 5 (.int .u8 a) (.int .u8 b))=J (a==b):=by unfold Op.equalIn;rw[gg,Bv Tryz.underlying5,iH];simp[cV];rfl
def Xc{e}{P}(f)(init:e):∀l:List Nat,(∀i∈l,cV P (f i init)=J (.yield init))->cV P (forIn l init f)=J init
 | [],_=>rfl
 |i::l,h=>by rw[List.forIn_cons,gg,h i (.head _),iH];exact Xc f init l λd b=>h d (.tail _ b)
def us(l:List UInt8):Array aG:=(l.map λb=>Value.int .u8 b.toNat).toArray
def atm(l):(U.agg (l.map fA)).flat=J (.agg (us l)):=by
 have:tj (l.map fA)=J (l.map λb=>Value.int .u8 b.toNat):=by
  induction l with
  |nil=>rfl|cons b l d=>show(tj (l.map fA)).map (Value.int .u8 b.toNat::·)=_;rw[d];rfl
 show(tj (l.map fA)).map (λl=>Value.agg l.toArray)=_;rw[this];rfl
def WL{l}{i}{b}(h:l[i]?=J b):cV aa (part 5 (us l) i)=J (.int .u8 b.toNat):=by
 unfold part;have d:cV aa (isAgg 5)=J ai:=by kernel_rfl
 rw[gg,d,iH];have:(us l)[i]?=J (.int .u8 b.toNat):=by unfold us;simp[h]
 simp[this];rfl
def afU{x y}{l:List UInt8}(k:F l=32):cy aa .eql 29 x y (.agg (l.map fA)) (.agg (l.map fA))=J (.v (.bool V)):=by
 have f:cV aa (eqGuard .eql 29 x y (.agg (us l)) (.agg (us l)))=J ():=by kernel_rfl
 have b:cy aa .eql 29 x y (.agg (l.map fA)) (.agg (l.map fA))=zZ aa .eql 29 x y (.agg (l.map fA)) (.agg (l.map fA)):=rfl;rw[b];unfold zZ;rw[atm];simp only;rw[gg,f,iH];show(cV aa (do pure (.bool (<-Op.equal 29 (.agg (us l)) (.agg (us l)))))).bind iU=_;rw[gg];have:cV aa (Op.equalIn 10000 29 (.agg (us l)) (.agg (us l)))=J V:=by
  unfold Op.equalIn;have g:cV aa (sizeOf 5)=J 1:=by kernel_rfl
  rw[gg,Bv Kb,iH];simp only;rw[gg,g,iH,gg,Std.Legacy.Range.forIn_eq_forIn_range',Xc]
  .rfl
  .intro i d;have d:i<32:=(by have:=List.mem_range'.1 d;obtain⟨m,e,h2⟩:=this;simp[Std.Legacy.Range.size]at e;have h2:i=0+1*m:=h2;omega);obtain⟨j,b⟩:∃j,l[i]?=J j:=⟨_,aN M⟩;rw[jC,gg,WL b,iH,gg,WL b,iH,gg,afX 9998,iH,beq_self_eq_true];rfl
 unfold Op.equal Op.maxDepth;rw[this];rfl
def LE:List aQ:=LD++[16,18,22,107,47]
noncomputable def HV:aQ->Option (List U->Heap->Option (U × Heap)):=lJ SD LE (λ_=>0) tS
noncomputable abbrev SE:=whole aa Gt HV
def RA:lW HV LE:=λd b=>⟨tW SD d,by unfold HV lJ;rw[av (by simpa using b)];rfl⟩
def IJ{x y}{l}(g:IL x l)(i:IL y l)(f:F l<=1000000):∀h,SE.call 22 [x,y] h=J (.ret (.v (.bool V)),h):=by obtain⟨b,h2⟩:=g.hold;obtain⟨d,e⟩:=i.hold;obtain⟨_,_,j,rfl,rfl⟩:=aqN ⟨[],[],0,[]⟩ b d f;exact Ed (L:=LE) (B:=[al x,al y]) O O (by simp[aA,h2,e]) j O rfl
def OP{x y}{l}(g:IL x l)(i:IL y l)(f:F l<=1000000):∀h,SE.call 107 [x,y] h=J (.ret (.v (.bool V)),h):=by obtain⟨b,h2⟩:=g.hold;obtain⟨d,e⟩:=i.hold;obtain⟨_,_,j,rfl,rfl⟩:=aqL ⟨[],[],0,[]⟩ b d f;exact Ed (L:=LE) (B:=[al x,al y]) O O (by simp[aA,h2,e]) j O rfl
def aqR{x y}{l}(g:PL x l)(i:PL y l)(f:F l<=1000000):∀h,SE.call 47 [x,y] h=J (.ret (.v (.bool V)),h):=by obtain⟨b,h2⟩:=g.fc;obtain⟨d,e⟩:=i.fc;obtain⟨_,_,j,rfl,rfl⟩:=aqQ ⟨[],[],0,[]⟩ b d f;exact Ed (L:=LE) (B:=[al x,al y]) O O (by simp[aA,h2,e]) j O rfl
def H_:Tryz.f106.results.toList=[.tmp 4]:=by kernel_rfl
def anh:Tryz.f45.results.toList=[.tmp 4]:=by kernel_rfl
def ani:Tryz.f46.results.toList=[.tmp 4]:=by kernel_rfl
def Ie:Tryz.f13.results.toList=[.tmp 4]:=by kernel_rfl
def aqK(h:Heap){z1 v S k:U}{rows:List (List Int)}{ac:List Int}(hX:RL z1 rows)(q:IL v ac)(Lp:RL S rows)(g:IL k ac)(E:F rows<=1000000)(ho:F ac<=1000000)(A:∀r∈rows,F r<=1000000):
 ∃r h',SE.call 106 [.agg [z1,v],.agg [S,k]] h=J (r,h')/\r=.ret (.v (.bool V))/\Ext h h':=by
 have cY:=IJ q g ho;have X:=q.bG;have Y:=g.bG;obtain⟨R,u,e,rfl,hs,fa,B⟩:=hX;obtain⟨s,n,b,rfl,j,L,m⟩:=Lp;have kr:=ae.mk (λd a a2 r (h1:e[d]?=J a) (h2:b[d]?=J a2) (C:rows[d]?=J r)=>IJ (B d a r h1 C) (m d a2 r h2 C) (A r (List.mem_of_getElem? C)));have ks:=ae.mk (aj hs j);have b1:(U.agg [.list R u (e.map λa=>[a]),v]).bG=J [.list R u (e.map λa=>[a]),v]:=by obtain⟨_,_,rfl,-⟩:=q;rfl
 have b2:(U.agg [.list s n (b.map λa=>[a]),k]).bG=J [.list s n (b.map λa=>[a]),k]:=by obtain⟨_,_,rfl,-⟩:=g;rfl
 clear hs j B m A q g X Y;have u23:=cT;have u22:=gm;have z23:=gV;have z3:=eR;have eC:F (e.map λa=>[a])=F rows:=by rw[br];exact fa
 have uS:F (b.map λa=>[a])=F rows:=by rw[br];exact L
 obtain⟨H,p⟩:∃H,(h.push [.list R u (e.map λa=>[a]),v]).push [.list s n (b.map λa=>[a]),k]=H:=⟨_,O⟩;have N:H.boxes[h.boxes.length]?=J [.list R u (e.map λa=>[a]),v]:=by rw[<-p];exact aM (aK _ _)
 have t:H.boxes[(h.push [.list R u (e.map λa=>[a]),v]).boxes.length]?=J [.list s n (b.map λa=>[a]),k]:=by rw[<-p];exact aK _ _
 have n1:=bF h [.list R u (e.map λa=>[a]),v];rw[n1]at t;have l0:=oc N;have l1:=w9 N;have m0:=oc t;have m1:=w9 t;have f0:=λT=>de (b:=T);have f1:=λT=>dR (b:=T);have kx:ae (Ext h H):=⟨by rw[<-p];exact(Ext.push _ _).trans (.push _ _)⟩;clear N t;refine bL O Tryz.func106 O ?_;refine cK @H_ @a_ @p ?_;refine bC.gen λo i y ek dm=>?_;have f2:o.get 2=.ptr (.box (F h.boxes)) 0:=by rw[i];exact gS
 have f3:o.get 3=.ptr (.box (F h.boxes+1)) 0:=by rw[i];simp only[gW,reduceIte,aJ,aB,n1]
 have f5:o.get 5=.v (.int .i64 (0:Nat)):=by rw[i];exact gR
 have fd:o.defers=[]:=by rw[y];exact gS
 clear i y ek dm;refine b9 (λz2 Z K=>∃d:Nat,d<=F rows/\z2=F rows-d/\Z.get 2=.ptr (.box (F h.boxes)) 0/\Z.get 3=.ptr (.box (F h.boxes+1)) 0/\Z.get 5=.v (.int .i64 (d:Nat))/\Z.defers=[]/\K=H) ?_ (F rows) _ _ ?_;rotate_left 1
 .exact⟨0,bV _,O,f2,f3,f5,fd,O⟩
 clear f2 f3 f5 fd;rintro z2 Z K ⟨d,hi,rfl,g2,g3,g5,hd,rfl⟩;by_cases f:d<F rows
 .have eo:u=1:=ks.out.1 (by intro z0;rw[z0]at f;simp at f);have j:n=1:=ks.out.2 (by intro z0;rw[z0]at f;simp at f);subst eo;subst j;obtain⟨r,E⟩:∃r,rows[d]?=J r:=⟨_,aN f⟩;obtain⟨a,D⟩:∃a,e[d]?=J a:=⟨_,aN M⟩;obtain⟨a2,l⟩:∃a,b[d]?=J a:=⟨_,aN M⟩;have ld:=iN (H:=K) (s:=1) D;have ld2:=iN (H:=K) (s:=1) l;have c22:=kr.out d a a2 r D l E;have fH:(d:Int)<(F rows:Int):=by omega
  clear D l E;refine bE @H_ @aT ?_;refine du RA bD ?_
  repeat' (first|simp(maxSteps:=9999999) (disch:=first|exact dZ|fail) only[gW,reduceIte,aJ,aB,H_,aT, *]|refine dX ?_ ?_<;>(intro _;try omega))
  all_goals exact⟨F rows-(d+1),by omega,d+1,by omega,O,by simp⟩
 .have:d=F rows:=by omega
  subst this
  repeat' (first|simp(maxSteps:=9999999) (disch:=first|exact dZ|fail) only[gW,reduceIte,aJ,aB,H_, *]|refine dX ?_ ?_<;>(intro _;try omega))
  all_goals exact⟨_,_,O,O,kx.out⟩
def VC{H}{b}{d}{p r n}(e:F d.tx=32)(f:H.boxes[b]?=J (ba d p r n)):aD aa Gt H 29 (.ptr (.box b) 9)=J (.agg (d.tx.map fA)):=by rw[fC bD (by kernel_rfl:cB aa 29=J 32) f (by unfold ba;rw[cg,br,e];exact aV _)];show J (U.agg (List.take 32 (d.tx.map fA)))=_;rw[fR (by rw[br,e];exact aV _)]
def aqO(h:Heap)(ep:Int){o p C e f d:U}{rows:List (List Int)}{ac b:List Int}(v:RL o rows)(y:IL p ac)(u:IL C b)(i:RL e rows)(j:IL f ac)(g:IL d b)(N:F rows<=1000000)(L:F ac<=1000000)(s:∀r∈rows,F r<=1000000)(A:F b<=1000000):
 ∃r h',SE.call 45 [.agg (aF ep o p C),.agg (aF ep e f d)] h=J (r,h')/\r=.ret (.v (.bool V))/\Ext h h':=by
 have X:=mP (ep:=ep) v y u;have Y:=mP (ep:=ep) i j g;obtain⟨H,l⟩:∃H,(h.push (aF ep o p C)).push (aF ep e f d)=H:=⟨_,O⟩;have m:H.boxes[h.boxes.length]?=J (aF ep o p C):=by rw[<-l];exact aM (aK _ _)
 have k:H.boxes[(h.push (aF ep o p C)).boxes.length]?=J (aF ep e f d):=by rw[<-l];exact aK _ _
 have S:=bF h (aF ep o p C);rw[S]at k;obtain⟨_,t,E,rfl,n⟩:=aqK H v y i j N L s;have T:=IJ u g A;have B:=n.box _ _ m;have D:=n.box _ _ k;have Z:aD aa Gt H 3 (.ptr (.box (F h.boxes)) 0)=J (I ep):=by rw[fe dS m];rfl
 have m0:aD aa Gt H 3 (.ptr (.box (F h.boxes+1)) 0)=J (I ep):=by rw[fe dS k];rfl
 have l1:aD aa Gt H 25 (.ptr (.box (F h.boxes)) 1)=J (.agg [o,p]):=by rw[fC bD (by kernel_rfl:cB aa 25=J 2) m (by decide:1+2<=4)];rfl
 have m1:aD aa Gt H 25 (.ptr (.box (F h.boxes+1)) 1)=J (.agg [e,f]):=by rw[fC bD (by kernel_rfl:cB aa 25=J 2) k (by decide:1+2<=4)];rfl
 have l2:aD aa Gt t 23 (.ptr (.box (F h.boxes)) 3)=J C:=by rw[fe mE B];rfl
 have m2:aD aa Gt t 23 (.ptr (.box (F h.boxes+1)) 3)=J d:=by rw[fe mE D];rfl
 have f0:=λq=>qA (b:=q);have f1:=λq=>gN (b:=q);have f2:=λq=>iK (b:=q);have R:ae (Ext h t):=⟨(by rw[<-l];exact(Ext.push _ _).trans (.push _ _):Ext h H).trans n⟩;clear m k B D n v y u i j g s;generalize aF ep o p C=K1 at *
 generalize aF ep e f d=K2 at *
 unfold I at *
 refine bL O Tryz.func45 O ?_
 repeat' (first|simp(maxSteps:=9999999) (disch:=first|exact dZ|fail) only[gW,reduceIte,aJ,aB,anh,a_,l, *]|refine dX ?_ ?_<;>(intro _;try omega))
 all_goals exact⟨_,_,O,O,R.out⟩
def aqP(h:Heap)(d:Dc){p r n f r2 e:U}(ok:jR d p r n)(b:jR d f r2 e)(i:F d.pa<=1000000/\F d.rv<=1000000/\F d.nd<=1000000):
 ∃l h',SE.call 46 [.agg (ba d p r n),.agg (ba d f r2 e)] h=J (l,h')/\l=.ret (.v (.bool V))/\Ext h h':=by
 have t:=ok.cells;have u:=b.cells;obtain⟨H,g⟩:∃H,(h.push (ba d p r n)).push (ba d f r2 e)=H:=⟨_,O⟩;have k:H.boxes[h.boxes.length]?=J (ba d p r n):=by rw[<-g];exact aM (aK _ _)
 have j:H.boxes[(h.push (ba d p r n)).boxes.length]?=J (ba d f r2 e):=by rw[<-g];exact aK _ _
 have o:=bF h (ba d p r n);rw[o]at j;have v:=OP ok.p b.p i.1;have y:=OP ok.r b.r i.2.1;have A:=OP ok.n b.n i.2.2;have E:=qJ k;have L:=qJ j;have C:=VC ok.t k;have D:=VC ok.t j;have B:=λx q=>afU (x:=x) (y:=q) ok.t;have N:=Ar;have m:ae (Ext h H):=⟨by rw[<-g];exact(Ext.push _ _).trans (.push _ _)⟩;clear k j ok b i;generalize ba d p r n=K1 at *
 generalize ba d f r2 e=K2 at *
 generalize d.tx.map fA=s at *
 unfold I at *
 refine bL O Tryz.func46 O ?_
 repeat' (first|simp(maxSteps:=9999999) (disch:=first|exact dZ|fail) only[gW,reduceIte,aJ,aB,ani,a_,g,List.append_eq,eu,dM, *]|refine dX ?_ ?_<;>(intro _;try omega))
 all_goals exact⟨_,_,O,O,m.out⟩
structure Cv(c:Ce):Prop where
 rows:c.rows.length<=1000000
 ac:c.ac.length<=1000000
 aeJ:∀r∈c.rows,r.length<=1000000
 ah:c.ah.length<=1000000
 doc:c.doc.pa.length<=1000000/\c.doc.rv.length<=1000000/\c.doc.nd.length<=1000000
 who:c.who.length<=1000000
 bT:c.bT.length<=1000000
 parts:c.parts.length<=1000000
def arl:Cv c0:=⟨bV _,bV _,λd b=>(by cases b),bV _,⟨bV _,bV _,bV _⟩,bV _,bV _,bV _⟩
def aqM(h:Heap)(c:Ce)(a a2:CA)(ok:cD c a)(b:cD c a2)(d:Cv c):
 ∃r h',SE.call 13 [.agg (aq c a),.agg (aq c a2)] h=J (r,h')/\r=.ret (.v (.bool V))/\Ext h h':=by
 have b1:=ok.cells;have b2:=b.cells;obtain⟨H,j⟩:∃H,(h.push (aq c a)).push (aq c a2)=H:=⟨_,O⟩;have p:H.boxes[h.boxes.length]?=J (aq c a):=by rw[<-j];exact aM (aK _ _)
 have k:H.boxes[(h.push (aq c a)).boxes.length]?=J (aq c a2):=by rw[<-j];exact aK _ _
 have T:=bF h (aq c a);rw[T]at k;obtain⟨_,H2,c45,rfl,l⟩:=aqO H c.ep ok.x ok.y ok.cm b.x b.y b.cm d.rows d.ac d.aeJ d.ah;obtain⟨_,v,c46,rfl,x3⟩:=aqP H2 c.doc ok.d b.d d.doc;have c22:=IJ ok.w b.w d.who;have c47:=aqR ok.pa b.pa d.bT;have q:=l.box _ _ p;have t:=l.box _ _ k;have X:=x3.box _ _ q;have Y:=x3.box _ _ t;obtain⟨l0,-⟩:=hO ok p;obtain⟨m0,-⟩:=hO b k;obtain⟨-,l1,-⟩:=hO ok q;obtain⟨-,m1,-⟩:=hO b t;obtain⟨-,-,l2,l3,l4,-⟩:=hO ok X;obtain⟨-,-,m2,m3,m4,-⟩:=hO b Y;obtain⟨kz,sz,ez,R⟩:=ok.z;obtain⟨kz2,Z,m,o⟩:=b.z;have S:=ae.mk (aj R o);rw[ez]at l4;rw[m]at m4;have il:=vG c.parts;have u33:=mZ;have z48:=xl;have z3:=pN;have kx:ae (Ext h v):=⟨((by rw[<-j];exact(Ext.push _ _).trans (.push _ _):Ext h H).trans l).trans x3⟩;have GW:=d.parts;clear p k q t X Y l x3 ok b d ez m R o;generalize aq c a=K1 at *
 generalize aq c a2=K2 at *
 refine bL O Tryz.func13 O ?_;refine cK @Ie @a_ @j ?_;refine bC.gen λi f n B C=>?_;have f2:i.get 2=.ptr (.box (F h.boxes)) 0:=by rw[f];exact gS
 have f3:i.get 3=.ptr (.box (F h.boxes+1)) 0:=by rw[f];simp only[gW,reduceIte,aJ,aB,T]
 have f5:i.get 5=.v (.int .i64 (0:Nat)):=by rw[f];exact gR
 have A:i.defers=[]:=by rw[n];exact gS
 clear f n B C;refine b9 (λz1 y K=>∃g:Nat,g<=F c.parts/\z1=F c.parts-g/\y.get 2=.ptr (.box (F h.boxes)) 0/\y.get 3=.ptr (.box (F h.boxes+1)) 0/\y.get 5=.v (.int .i64 (g:Nat))/\y.defers=[]/\K=v) ?_ (F c.parts) _ _ ?_;rotate_left 1
 .exact⟨0,bV _,O,f2,f3,f5,A,O⟩
 clear f2 f3 f5 A;rintro z1 y K ⟨g,hi,rfl,g2,g3,g5,hd,rfl⟩;by_cases e:g<F c.parts
 .have D:sz=2:=S.out.1 (by intro z0;rw[z0]at e;simp at e);have L:Z=2:=S.out.2 (by intro z0;rw[z0]at e;simp at e);subst D;subst L;obtain⟨u,N⟩:∃u,c.parts[g]?=J u:=⟨_,aN e⟩;have ld:=yU (H:=K) (s:=2) N;have ne:=λx z=>alb (x:=x) (y:=z) u u;rw[bQ O]at ne;have fH:(g:Int)<(F c.parts:Int):=by omega
  clear N;generalize bh u=z2 at *
  refine bE @Ie @aT ?_;refine du RA bD ?_
  repeat' (first|simp(maxSteps:=9999999) (disch:=first|exact dZ|fail) only[gW,reduceIte,aJ,aB,Ie,aT, *]|refine dX ?_ ?_<;>(intro _;try omega))
  all_goals exact⟨F c.parts-(g+1),by omega,g+1,by omega,O,by simp⟩
 .have:g=F c.parts:=by omega
  subst this
  repeat' (first|simp(maxSteps:=9999999) (disch:=first|exact dZ|fail) only[gW,reduceIte,aJ,aB,Ie, *]|refine dX ?_ ?_<;>(intro _;try omega))
  all_goals exact⟨_,_,O,O,kx.out⟩
end Go.Proofs.YtcbhpkjbiehcpaaGreatDoor
end
section
namespace Go.AE
open Go.RowKit (Below)
mutual
def mT:U->Bool
 | .v _=>V
 | .agg b=>Br b
 | .tuple b=>Br b
 | .list .nil _ []=>V
 |_=>ai
def Br:List U->Bool
 | []=>V
 |x::b=>mT x&&Br b
end
def sO(z:Nat)(h:Heap):U->Bool
 | .arr e b len _=>match h.boxes[e]? with
  |some d=>decide (b+len*z<=F d)&&decide (0<z)&&Br ((d.drop b).take (len*z))|none=>ai
 |x=>mT x
def CF(z:Nat)(h:Heap):U->U
 | .arr e b len _=>match h.boxes[e]? with
  |some d=>.list .held z (nr z d b len)
  |none=>.bad
 |x=>x
section
variable {P:bj} {G:Nat->Option (List U)} {ok:aQ->Nat->Code->Bool} {w0 w w':World} {K K1 K2:aW} {h h2:Heap} {z:Nat}
mutual
def aO.plain:∀{x:U} {c:aG},aO K1 x c->mT x=V->aO K2 x c
 |_,_,.bad c,_=>.bad c
 |_,_,.v x l,_=>.v x l
 |_,_,.nil e,_=>.nil e
 |_,_,.fP e a,_=>.fP e a
 |_,_,.list R e n i b T f cells D k d q s o,h=>by
  cases R with|nil=>exact s.2.elim|tight=>simp[mT]at h|free N=>simp[mT]at h|held=>simp[mT]at h
 |_,_,.arr v i b len f t m p r u E k,h=>by simp[mT]at h
 |_,_,.agg j g d,h=>.agg _ g (aH.plain d (by simpa only[mT] using h))
 |_,_,.tuple j g d,h=>.tuple _ g (aH.plain d (by simpa only[mT] using h))
 |_,_,.box v i b p,h=>by simp[mT]at h
 |_,_,.dB i b,h=>.dB i b
 |_,_,.elem e n N b i X Y cells k d q C L o,h=>by simp[mT]at h
 |_,_,.func y first f A j B h2,h=>by simp[mT]at h
 |_,_,.yield S i r,h=>by simp[mT]at h
 |_,_,.iface Z x c l,h=>by simp[mT]at h
def aH.plain:∀{xs:List U} {cs:List aG},aH K1 xs cs->Br xs=V->aH K2 xs cs
 |_,_,.nil,_=>.nil
 |_,_,.cons x c xs cs d b,h=>by simp only[Br,bm]at h;exact .cons _ c _ cs (aO.plain d h.1) (aH.plain b h.2)
end
def aO.FF(Z:bJ K1 G ok w h2 w')(n:∀g j c,K1.base<=g->w'.cell? ⟨g,j,af⟩=J c->K2.ic g j=J c){x:U}{c:aG}(e:aO K1 x c)(h:sO z h2 x=V):aO K2 (CF z h2 x) c:=by
 cases e with
 |arr E g d len i b l t N ph ho p=>
  simp only[sO,CF]at h ⊢;cases m:h2.boxes[E]? with
  |none=>simp_all|some f=>
   rw[m]at h;simp only[bm,decide_eq_true_eq]at h ⊢;obtain⟨⟨B,hz⟩,L⟩:=h;obtain⟨X,q2,q3,cells,z2,Y,D⟩:=Z.box E g f t m;have R:=D.le;by_cases h0:i=0
   .have:len=0:=(by omega);subst this;exact .list .held z [] g b 0 l [] O (λ_ h=>by cases h) .nil (λ_ _ h=>by grind) ⟨bV _,aX⟩ O
   .have o:b=d:=(by simp_all);subst o;have e:aH K1 ((f.drop b).take (len*z)) (((cells.toList.take (F f)).drop b).take (len*z)):=(D.1.drop b).take (len*z);refine .list .held z _ g b len l (((cells.toList.take (F f)).drop b).take (len*z)) (by rw[Ok]) (Ol B) ?_ (λj c y=>?_) ⟨M,aX⟩ ?_
    .rw[vB];exact aH.plain e L
    .refine n _ _ _ X ?_;have A:j<len*z:=(by have:=(aS.1 y).1;rw[cR]at this;omega);rw[mr,av A,List.getElem?_drop,mr,av M]at y;rw[cell_of Y];simp_all
    .rw[vB]
     grind
 |bad c=>exact .bad c|v _ C=>exact .v _ C|nil k=>exact .nil k|fP k a=>exact .fP k a|list z0 k r g d z1 i cells S p e u T s=>exact aO.plain (.list z0 k r g d z1 i cells S p e u T s) h|agg f q e=>exact aO.plain (.agg f q e) h|tuple f q e=>exact aO.plain (.tuple f q e) h|box E g d t=>simp[sO,mT]at h|dB g d=>exact .dB g d|elem k r z3 d g z5 z6 cells p e u hi hp s=>simp[sO,mT]at h|func fn first i fs f h1 h2=>simp[sO,mT]at h
 |yield z4 g N=>simp[sO,mT]at h|iface z7 x c C=>simp[sO,mT]at h
def aH.FF(d:bJ K1 G ok w h2 w')(b:∀g j c,K1.base<=g->w'.cell? ⟨g,j,af⟩=J c->K2.ic g j=J c):∀{xs:List U} {cs:List aG},aH K1 xs cs->xs.all (sO z h2)=V->aH K2 (xs.map (CF z h2)) cs
 |_,_,.nil,_=>.nil
 |_,_,.cons x c xs cs f e,h=>by rw[List.all_cons,bm]at h;exact .cons _ c _ cs (aO.FF d b f h.1) (aH.FF d b e h.2)
def C4(z:Nat)(R:Rec)(g:aQ)(args:List U)(h:Heap):Option (U × Heap):=
 if aA 0 0 0 (ip z h args)=V then
  match R.call g (ip z h args) ⟨[],[],0,[]⟩ with
  |some (.ret (.tuple b),h2)=>if b.all (sO z h2)=V then J (.tuple (b.map (CF z h2)),h) else af
  |_=>af
 else af
def agu{aI:aQ->Option (List U->Heap->Option (U × Heap))}(E:Prog P)(A:∀g cs,G g=J cs->aA 0 0 0 cs=V)(d:∀u g p,aI g=J p->jV P G u g p){g:aQ}(k:∃fn,P.funcs[g]?=J fn/\fn.body.isSome=V)(u:World):
 jV P G u g (C4 z (whole P G aI) g):=by
 refine⟨k,λv h x X b K w f L e cs=>?_⟩;unfold C4 at b;split at b
 .rename_i D;split at b
  .rename_i Y h2 i;split at b
   .rename_i B;injection b with b;injection b with r s;subst r;subst s;obtain⟨-,j⟩:=(E9 E (d w)).call g _ _ _ _ i;have N:=bJ.still e A;obtain⟨K1,w',y,le,t,o,l,T,q,n⟩:=j (K.still w) w f (aH.j8 e L D) N cs;have C:Below w.heap.size w w':=(by have:=t.fD;rwa [le.base]at this);refine⟨.returned T,w',y,⟨T,_,O,aW.D3 e,?_,bJ.jN e C⟩,o,l,n⟩;cases q with|tuple _ R S=>refine .tuple _ R (aH.FF (K2:=K.jN w.heap.size w') t (λg Z c m i=>?_) S B);have S:w.heap.size<=g:=(by rw[le.base]at m;exact m);simp only[aW.jN,aP (M:¬g<w.heap.size)];exact i
   grind
  grind
 grind
def agt{R:Rec}{L:List aQ}{Z:aQ->Nat}{q:aQ->Option (List U->Heap->Option (U × Heap))}{g:aQ}{R0:Rec}{args B d zs:List U}{h b:Heap}(n:L.contains g=ai)(m:Z g=0)(k:q g=J (C4 z R0 g))(f:ip z h args=B)(j:aA 0 0 0 B=V)(i:R0.call g B ⟨[],[],0,[]⟩=J (.ret (.tuple d),b))(l:d.all (sO z b)=V)(e:d.map (CF z b)=zs):
 (whole P G (lJ R L Z q)).call g args h=J (.ret (.tuple zs),h):=by
 subst f;subst e;rw[qZ];unfold j9 lJ;rw[aP (by simp_all),m];simp only[k,C4,av j,i,av l];rfl
end
end Go.AE
end
section
namespace Go.Proofs.YtcbhpkjbiehcpaaGreatDoor
open Go.AE Go.NT
def LF:List aQ:=(LE.filter λb=> !(gX b 60||gX b 61))++[13]
noncomputable def qF(g:aQ):Option (List U->Heap->Option (U × Heap)):=if gX g 60||gX g 61 then J (C4 1 SE g) else af
noncomputable def W9:aQ->Option (List U->Heap->Option (U × Heap)):=lJ SE LF (λ_=>0) qF
noncomputable abbrev SF:=whole aa Gt W9
section
variable {P:bj} {z:Nat} {h:Heap}
mutual
def C5:∀x:U,au 0 0 0 x=V->gO z h x=al x
 | .list k i e,b=>by simp only[au,bm]at b;rw[gO,al,S_ e b.2]
 | .arr j g len f,b=>by simp[au]at b
 | .tuple d,b=>by rw[gO,al,Gf d (by simpa only[au] using b)]
 | .agg d,b=>by rw[gO,al,Gf d (by simpa only[au] using b)]
 | .iface l x,b=>by rw[gO,al,C5 x (by simpa only[au] using b)]
 | .v _,_=>rfl
 | .ptr _ _,_=>rfl
 | .elem _ _ _ _,_=>rfl
 | .func _ _ _,_=>rfl
 | .yield _,_=>rfl
 | .bad,_=>rfl
def Gf:∀xs:List U,aA 0 0 0 xs=V->ip z h xs=aZ xs
 | [],_=>rfl
 |x::xs,b=>by simp only[aA,bm]at b;rw[ip,aZ,C5 x b.1,Gf xs b.2]
def S_:∀xs:List (List U),e_ 0 0 0 xs=V->nG z h xs=dk xs
 | [],_=>rfl
 |x::xs,b=>by simp only[e_,bm]at b;rw[nG,dk,Gf x b.1,S_ xs b.2]
end
end
def agv{h}{b n}{l}(e:h.boxes[b]?=J (l.map I))(f:F l=n):gO 1 h (.arr b 0 n n)=.list .held 1 (ints l):=by
 subst f;rw[gO,e];simp only;rw[av ⟨by rw[br];omega,by omega⟩];have:nr 1 (l.map I) 0 (F l)=ints l:=by
  have:=Io (z:=1) (ints l) [] (by intro m d;unfold ints at d;obtain⟨k,-,rfl⟩:=iV.1 d;rfl);rw[dM,cE]at this;have i:(ints l).flatten=l.map I:=by rw[<-La];induction l.map I with
   |nil=>rfl|cons x j g=>rw[eD,jA,g];rfl
  rw[i]at this;exact this
 rw[this,rA]
def KN{g}{a}{y}(c:bK SB g a y)(b:LC.contains g=V)(h2:LD.contains g=V)(d:LE.contains g=V):bK SE g a y:=((c.mix (L:=LC) b).mix (L:=LD) h2).mix (L:=LE) d
def xS{g}{a}{y}(c:bK SE g a y)(b:LF.contains g=V):bK SF g a y:=c.mix (L:=LF) b
section
variable {c:Ce} {a:CA}
def aeS(ok:cD c a)(e:dz a){T:U}{text:List UInt8}(q:BL T text)(o:al T=T){z:List Int}(j:F c.ah<=1000000)(k:F c.bT<=1000000)(l:F text<=1000000)(m:F z<=1000000){h:Heap}{b:Nat}(p:h.boxes[b]?=J (z.map I)):
 SF.call 60 [.agg (aF c.ep a.X a.Y a.C),T,a.Pa,.arr b 0 (F z) (F z)] h=J (.ret (.tuple [.agg [I (iJ c.rows c.ac c.ep c.ah text c.bT z).1.1,I (iJ c.rows c.ac c.ep c.ah text c.bT z).1.2],.v (.bool (iJ c.rows c.ac c.ep c.ah text c.bT z).2.1),I (iJ c.rows c.ac c.ep c.ah text c.bT z).2.2]),h):=by
 have r:IL (.list .held 1 (ints z)) z:=⟨.held,1,O,λ_=>rfl⟩;have f:=ajv (ep:=c.ep) ok.x ok.y ok.cm q ok.pa r j k l m;rw[e.X,e.Y,e.C,e.Pa,o]at f;have ez:al (.list .held 1 (ints z))=.list .held 1 (ints z):=by simp only[al,rA];rfl
 rw[ez]at f;have f:bK SE 60 _ _:=KN (nE f O O) O O O;refine agt (z:=1) (R0:=SE) (L:=LF) (q:=qF) O O O ?_ f.fit (f.call _) O O;have d:=f.fit;simp only[aA,bm]at d;simp only[ip];rw[C5 _ d.1,C5 _ d.2.1,C5 _ d.2.2.1,agv p O];have:=f.held;simp only[aZ]at this;injection this with n g;injection g with g i;injection i with i s;rw[n,g,i]
end
def Ep:Tryz.f20.results.toList=[.cell 2 52,.tmp 3,.tmp 4,.tmp 5]:=by kernel_rfl
section
variable {c:Ce} {a:CA}
def RV(ok:cD c a)(d:dz a)(b:c.Fit):∀h,SF.call 14 [.agg (aq c a)] h=J (.ret (I (eH c)),h):=(xS ((Vj ok d b).mix (L:=LE) (Z:=λ_=>0) (q:=tS) O) O).call
def as1(ok:cD c a)(b:dz a)(d:c.Fit):∃T,(ij c.doc=V->BL T (cA (iR c.doc)))/\al T=T/\∀h,SF.call 28 [.agg (ba c.doc a.p a.r a.n)] h=J (.ret (.tuple [T,I (if ij c.doc=V then 0 else 170)]),h):=by obtain⟨T,e,h2,f⟩:=M' ok.d d.2.2.2.1;rw[b.p,b.r,b.n]at f;exact⟨T,e,h2,(xS (KN f O O O) O).call⟩
def aft(h:Heap)(ok:cD c a)(k:dz a)(j:c.Fit)(f:eH c≠0∨F c.parts<F c.who):∃r h',SF.call 20 [.agg (aq c a)] h=J (r,h')/\r=.ret (.tuple [.agg [I 0,I 0],.list .nil 0 [],.v (.bool ai),I (eH c)]):=by
 have E:=ok.cells;have t:=RV ok k j;have z:=Jd;obtain⟨H,d⟩:∃H,(h.push (aq c a)).push [I 0,I 0]=H:=⟨_,O⟩;have m:H.boxes[h.boxes.length]?=J (aq c a):=by rw[<-d];exact aM (aK _ _)
 have b:H.boxes[(h.push (aq c a)).boxes.length]?=J [I 0,I 0]:=by rw[<-d];exact aK _ _
 have p:=bF h (aq c a);rw[p]at b;obtain⟨-,-,n,-,o,R⟩:=hO ok m;have S:=yS b;have s:=BV (u:=0) (v:=0) b;rw[kC b]at s;obtain⟨L,T,i,-⟩:=ok.w;obtain⟨N,X,ez,-⟩:=ok.z;rw[i]at n;rw[ez]at o;have wZ:=cE c.who;have A:=vG c.parts;have B:=cT;have C:=mZ;have Z:=pN;have e:decide ((F c.parts:Int)<(F c.who:Int))=decide (F c.parts<F c.who):=by by_cases q:F c.parts<F c.who<;>simp[q]
 clear m b ok k j i ez;generalize aq c a=Y at *
 generalize eH c=y at *
 unfold I at *
 refine bL O aa6 O ?_;by_cases g:y=0
 .have l:F c.parts<F c.who:=by rcases f with q|q;exact absurd g q;exact q
  rw[bQ l]at e;subst g;clear f
  repeat' (first|simp(maxSteps:=9999999) (disch:=first|exact dZ|fail) only[gW,reduceIte,aJ,aB,Ep,a_,d, *]|refine dX ?_ ?_<;>(intro _;try omega))
  all_goals exact⟨_,_,O,O⟩
 .have d1:decide (y=0)=ai:=b_ g;clear f e
  repeat' (first|simp(maxSteps:=9999999) (disch:=first|exact dZ|fail) only[gW,reduceIte,aJ,aB,Ep,a_,d, *]|refine dX ?_ ?_<;>(intro _;try omega))
  all_goals exact⟨_,_,O,O⟩
def afu(h:Heap)(ok:cD c a)(A:dz a)(g:c.Fit)(hc:eH c=0)(hl:¬F c.parts<F c.who)(Z:F (cA (iR c.doc))<=1000000)(y:ij c.doc=V)
 (X:(iJ c.rows c.ac c.ep c.ah (cA (iR c.doc)) c.bT (c.parts.map mb)).2.1=V):∃r h',SF.call 20 [.agg (aq c a)] h=J (r,h')/\r=.ret (.tuple [.agg [I (iJ c.rows c.ac c.ep c.ah (cA (iR c.doc)) c.bT (c.parts.map mb)).1.1,I (iJ c.rows c.ac c.ep c.ah (cA (iR c.doc)) c.bT (c.parts.map mb)).1.2],.list .nil 0 [],.v (.bool V),I 0]):=by
 have bx:=ok.cells;have c14:=RV ok A g;rw[hc]at c14;obtain⟨z1,j,R,Rt⟩:=as1 ok A g;have j:=j y;rw[av y]at Rt;have z:=Jd;have zq:=Zi;obtain⟨H,t⟩:∃H,(h.push (aq c a)).push [I 0,I 0]=H:=⟨_,O⟩;have C:H.boxes[h.boxes.length]?=J (aq c a):=by rw[<-t];exact aM (aK _ _)
 have q1:H.boxes[(h.push (aq c a)).boxes.length]?=J [I 0,I 0]:=by rw[<-t];exact aK _ _
 have n1:=bF h (aq c a);rw[n1]at q1;have nH:F H.boxes=F h.boxes+2:=by rw[<-t,bF,bF]
 obtain⟨-,l1,l2,-,l4,l0⟩:=hO ok C;have mk:=vk H (F c.parts) g.2.2.2.2.2 .i64 .i64;obtain⟨-,-,-,-,m4,-⟩:=hO ok (aM (cs:=bB (F c.parts) (I 0)) C);have kld:ae (∀K:Heap,K.boxes[h.boxes.length]?=J (aq c a)->aD aa Gt K 27 (.ptr (.box (F h.boxes)) 0)=J (.agg (aF c.ep a.X a.Y a.C))/\aD aa Gt K 32 (.ptr (.box (F h.boxes)) 46)=J a.Pa):=⟨λK hK=>by obtain⟨x1,-,-,x2,-,-⟩:=hO ok hK;exact⟨x1,x2⟩⟩;have kcb:ae (∀K:Heap,K.boxes[F h.boxes+2]?=J ((c.parts.map mb).map I)->SF.call 60 [.agg (aF c.ep a.X a.Y a.C),z1,a.Pa,.arr (F h.boxes+2) 0 (F c.parts) (F c.parts)] K=J (.ret (.tuple [.agg [I (iJ c.rows c.ac c.ep c.ah (cA (iR c.doc)) c.bT (c.parts.map mb)).1.1,I (iJ c.rows c.ac c.ep c.ah (cA (iR c.doc)) c.bT (c.parts.map mb)).1.2],.v (.bool (iJ c.rows c.ac c.ep c.ah (cA (iR c.doc)) c.bT (c.parts.map mb)).2.1),I (iJ c.rows c.ac c.ep c.ah (cA (iR c.doc)) c.bT (c.parts.map mb)).2.2]),K)):=⟨λK hK=>by have:=aeS ok A j R (z:=c.parts.map mb) g.2.1 g.2.2.2.2.1 Z (by rw[br];exact g.2.2.2.2.2) hK;rw[br]at this;exact this⟩;obtain⟨kw,sw,ew,-⟩:=ok.w;obtain⟨kz,sz,ez,Y⟩:=ok.z;rw[ew]at l2;rw[ez]at l4 m4;have wZ:=cE c.who;have il2:=vG c.parts;have u23:=cT;have u33:=mZ;have z48:=xl;have z7:=pN;have f48:=F5;have dj:decide ((F c.parts:Int)<(F c.who:Int))=ai:=b_ M;have ks:=ae.mk Y;have GW:=g.2.2.2.2.2;have k0:ae ((H.push (bB (F c.parts) (I 0))).boxes[h.boxes.length]?=J (aq c a)/\(H.push (bB (F c.parts) (I 0))).boxes[F h.boxes+1]?=J [I 0,I 0]/\(H.push (bB (F c.parts) (I 0))).boxes[F h.boxes+2]?=J (((c.parts.take 0).map mb++bB (F c.parts-0) (0:Int)).map I)):=⟨⟨aM C,aM q1,by have:=aK H (bB (F c.parts) (I 0));rw[nH]at this;rw[this,cX,List.map_nil,dM,List.map_replicate,Nat.sub_zero]⟩⟩;clear C q1 ok A g ew ez hc hl Y j R Z y;generalize iJ c.rows c.ac c.ep c.ah (cA (iR c.doc)) c.bT (c.parts.map mb)=z3 at *
 obtain⟨⟨L,N⟩,z4,q⟩:=z3;simp only at X kcb ⊢;subst X;generalize aq c a=z2 at *
 generalize aF c.ep a.X a.Y a.C=KY at *
 generalize ba c.doc a.p a.r a.n=DC at *
 generalize a.Pa=PA at *
 have kH:=ae.mk nH;unfold I at *
 refine bL O aa6 O ?_;refine cK @Ep @a_ @t ?_;refine bC.gen λe d T ek dm=>?_;have f1:e.get 1=.ptr (.box (F h.boxes)) 0:=by rw[d];exact gS
 have f2:e.get 2=.ptr (.box (F h.boxes+1)) 0:=by rw[d];simp only[gW,reduceIte,aJ,aB,n1]
 have f3:e.get 3=.list .nil 0 []:=by rw[d];exact gS
 have f6:e.get 6=z1:=by rw[d];exact gS
 have f8:e.get 8=.arr (F h.boxes+2) 0 (F c.parts) (F c.parts):=by rw[d];simp only[gW,reduceIte,aJ,aB,nH]
 have f37:e.get 37=.list kz sz (bN c.parts):=by rw[d];exact gS
 have f38:e.get 38=.v (.int .i64 (F c.parts:Nat)):=by rw[d];simp only[gW,reduceIte,aJ,aB,il2]
 have f39:e.get 39=.v (.int .i64 (0:Nat)):=by rw[d];exact gR
 have fd:e.defers=[]:=by rw[T];exact gS
 clear d T ek dm;refine b9 (λz0 q K=>∃b:Nat,b<=F c.parts/\z0=F c.parts-b/\q.get 1=.ptr (.box (F h.boxes)) 0/\q.get 2=.ptr (.box (F h.boxes+1)) 0/\q.get 6=z1/\q.get 8=.arr (F h.boxes+2) 0 (F c.parts) (F c.parts)/\q.get 37=.list kz sz (bN c.parts)/\q.get 38=.v (.int .i64 (F c.parts:Nat))/\q.get 39=.v (.int .i64 (b:Nat))/\q.defers=[]/\ae (K.boxes[h.boxes.length]?=J z2/\K.boxes[F h.boxes+1]?=J [.v (.int .i64 0),.v (.int .i64 0)]/\K.boxes[F h.boxes+2]?=J (((c.parts.take b).map mb++bB (F c.parts-b) (0:Int)).map I))) ?_ (F c.parts) _ _ ?_;rotate_left 1
 .exact⟨0,bV _,O,f1,f2,f6,f8,f37,f38,f39,fd,k0⟩
 clear f1 f2 f3 f6 f8 f37 f38 f39 fd k0;rintro z0 q K ⟨b,hi,rfl,g1,g2,g6,g8,g37,g38,g39,y,p⟩;by_cases f:b<F c.parts
 .have eo:sz=2:=ks.out (by intro z5;rw[z5]at f;simp at f);subst eo;obtain⟨i,E⟩:∃i,c.parts[b]?=J i:=⟨_,aN f⟩;have ld:=yU (H:=K) (s:=2) E;have st:bY aa (K.push (bh (0,0))) 48 (.ptr (.box (F K.boxes)) 0) (.agg (bh i))=J (K.push (bh i)):=YM i;have lz:=(yT (aK K (bh i))).2.1;have ix:dH aa 23 (.arr (F h.boxes+2) 0 (F c.parts) (F c.parts)) (.v (.int .i64 (b:Nat)))=J (.ptr (.box (F h.boxes+2)) b):=nN f;have sk:=um (H:=K.push (bh i)) (b:=F h.boxes+2) (r:=(c.parts.take b).map mb++bB (F c.parts-b) (0:Int)) (k:=b) (x:=i.2) (aM p.out.2.2) (by rw[cg,br,cR,List.length_replicate];omega);have n:((c.parts.take b).map mb++bB (F c.parts-b) (0:Int)).set b i.2=(c.parts.take (b+1)).map mb++bB (F c.parts-(b+1)) (0:Int):=by have e1:F ((c.parts.take b).map mb)=b:=(by rw[br,cR];omega);obtain⟨z0,hm⟩:∃z0,F c.parts-b=z0+1:=⟨F c.parts-b-1,by omega⟩;rw[hm,(M:F c.parts-(b+1)=z0),List.replicate_succ,List.set_append_right _ _ M,e1,qs,List.set_cons_zero,List.take_add_one,E,jB];simp
  rw[n]at sk;obtain⟨o,l,m⟩:=p.out;have S:F h.boxes+2<F (K.push (bh i)).boxes:=by have:=(aS.1 m).1;rw[bF];omega
  have kN:ae (((K.push (bh i)).put (F h.boxes+2) (((c.parts.take (b+1)).map mb++bB (F c.parts-(b+1)) (0:Int)).map I)).boxes[h.boxes.length]?=J z2/\((K.push (bh i)).put (F h.boxes+2) (((c.parts.take (b+1)).map mb++bB (F c.parts-(b+1)) (0:Int)).map I)).boxes[F h.boxes+1]?=J [.v (.int .i64 0),.v (.int .i64 0)]/\((K.push (bh i)).put (F h.boxes+2) (((c.parts.take (b+1)).map mb++bB (F c.parts-(b+1)) (0:Int)).map I)).boxes[F h.boxes+2]?=J (((c.parts.take (b+1)).map mb++bB (F c.parts-(b+1)) (0:Int)).map I)):=⟨⟨by rw[cr M];exact aM o,by rw[cr M];exact aM l,dn S⟩⟩;have fH:(b:Int)<(F c.parts:Int):=by omega
  clear E o l m S n p;generalize MT:i.2=yz at *
  generalize bh i=z6 at *
  generalize Tm:bh (0,0)=B0 at *
  unfold I at *
  repeat' (first|simp(maxSteps:=9999999) (disch:=first|exact dZ|fail) only[gW,reduceIte,aJ,aB,Ep,aT, *]|refine dX ?_ ?_<;>(intro _;try omega))
  all_goals exact⟨F c.parts-(b+1),by omega,b+1,by omega,O,by simp,by first|exact kN|trivial⟩
 .have:b=F c.parts:=by omega
  subst this;obtain⟨o,l,m⟩:=p.out;rw[fB,qs,List.replicate_zero,ga]at m;have cb:=kcb.out K m;obtain⟨x1,x2⟩:=kld.out K o;have s5:=BV (u:=L) (v:=N) l;have B:(K.put (F h.boxes+1) [I L,I N]).boxes[F h.boxes+1]?=J [I L,I N]:=dn (aS.1 l).1;have l6:=yS B;have s6:=BV (u:=L) (v:=N) B;rw[kC B]at s6;clear o l m B p;unfold I at *
  repeat' (first|simp(maxSteps:=9999999) (disch:=first|exact dZ|fail) only[gW,reduceIte,aJ,aB,Ep, *]|refine dX ?_ ?_<;>(intro _;try omega))
  all_goals exact⟨_,_,O,O⟩
end
def Rz:List (List Int):=[[1,1],[1,2]]
def Oz:List Int:=[1,2]
def Cz:List Int:=pJ [5,7]
def i_:Dc:=⟨3,0,0,0,0,9,[],[],[],bB 32 0⟩
def nO(k d f:Int):Pr:=⟨k,0,fb 4 d,fb 4 f⟩
def cz(l:List Pr)(z:List (Int × Int)):Ce:=⟨Rz,Oz,0,Cz,i_,[1,2],l,z⟩
def dJ:Pr:=nO 1 100 101
def df:Pr:=nO 2 102 103
def ur:List UInt8:=cA (iR i_)
def az:Int:=645765691
def bz:Int:=686257420
def ez:Int:=223354490
def vK:Int:=258281322
def Zk:NT.eM Rz Oz 0 Cz i_ [1]=440:=by decide+kernel
def Zl:NT.eM Rz Oz 0 Cz i_ [2,1]=1:=by decide+kernel
def Zm:NT.eM Rz Oz 0 Cz d0 [1,2]=170:=by decide+kernel
def Zn:NT.eM Rz Oz 0 Cz i_ [1,2]=0:=by decide+kernel
def zc0:eH c0=440:=by decide+kernel
def Zf:eH (cz [] [])=0:=by decide+kernel
def Zo:mS (cz [] []) (1,0)=(420,[]):=by decide+kernel
def Zp:mg (cz [] []) df=(0,[df]):=by decide+kernel
def Zq:mg (cz [df] []) dJ=(0,[dJ,df]):=by decide+kernel
def zp3:(mg (cz [dJ,df] []) (nO 2 1 2)).1=151:=by decide+kernel
def zp4:(mg (cz [dJ,df] []) (nO 3 1 2)).1=420:=by decide+kernel
def zm1:oC Rz Oz 0 Cz ur [dJ,df] 1 [(0,12)] 100 101=(az,0):=by decide+kernel
def zm2:oC Rz Oz 0 Cz ur [dJ,df] 2 [(1,19)] 102 103=(bz,0):=by decide+kernel
def Zr:mS (cz [dJ,df] []) (2,bz)=(0,[(2,bz)]):=by decide+kernel
def Zs:mS (cz [dJ,df] [(2,bz)]) (1,az)=(0,[(1,az),(2,bz)]):=by decide+kernel
def zc5:eH (cz [dJ,df] [(1,az),(2,bz)])=0:=by decide+kernel
def Zj:ij i_=V:=by decide+kernel
def zk:iJ Rz Oz 0 Cz ur [dJ,df] [az,bz]=((ez,vK),V,0):=by decide+kernel
def zv:qY (ag Cz 0) ur ez vK=V:=by decide+kernel
def Zt:F ur<=1000000:=by decide+kernel
def ane:Tryz.f27.results.toList=[.cell 0 27,.tmp 1]:=by kernel_rfl
def anf:Tryz.f29.results.toList=[.cell 6 46]:=by kernel_rfl
def CQ{g}{a}{y}(c:bK W8 g a y)(b:LA.contains g=V)(h2:LB.contains g=V)(d:LC.contains g=V)(e:LD.contains g=V)(f:LE.contains g=V)(i:LF.contains g=V):bK SF g a y:=xS (KN (nE c b h2) d e f) i
def acF(k x y):iy aa 46 [(0,I k),(2,I x),(3,I y)]=J (.agg (aL ⟨k,0,x,y⟩)):=by kernel_rfl
def aln(h:Heap)(k d f:Int):∃r h',SF.call 29 [I k,I d,I f] h=J (r,h')/\r=.ret (.agg (aL (nO k d f))):=by
 have g:=(CQ (Vm 4 d) O O O O O O).call;have i:=(CQ (Vm 4 f) O O O O O O).call;have z:=zA;have e:=acF k (fb 4 d) (fb 4 f);have st:bY aa (h.push (aL ⟨0,0,0,0⟩)) 46 (.ptr (.box (F h.boxes)) 0) (.agg (aL ⟨k,0,fb 4 d,fb 4 f⟩))=J (h.push (aL ⟨k,0,fb 4 d,fb 4 f⟩)):=zr _;have l:=nj (aK h (aL ⟨k,0,fb 4 d,fb 4 f⟩));unfold nO;generalize j:aL ⟨k,0,fb 4 d,fb 4 f⟩=m at *
 generalize aL ⟨0,0,0,0⟩=b at *
 unfold I at *
 refine bL O Tryz.func29 O ?_;refine bg @anf ?_;exact⟨_,_,O,O⟩
def Xz:U:=.list .tight 1 [[.list .tight 1 (ints [1,1])],[.list .tight 1 (ints [1,2])]]
def Yz:U:=.list .tight 1 (ints [1,2])
def xc:RL Xz Rz:=by
 refine⟨.tight,1,[.list .tight 1 (ints [1,1]),.list .tight 1 (ints [1,2])],O,λ_=>rfl,O,λe a f b d=>?_⟩
 match e with
 |0=>injection b with b;injection d with d;subst b;subst d;exact⟨_,_,O,λ_=>rfl⟩
 |1=>injection b with b;injection d with d;subst b;subst d;exact⟨_,_,O,λ_=>rfl⟩
 |e+2=>simp at b
def w7:IL Yz Oz:=⟨_,_,O,λ_=>rfl⟩
def Du:al Xz=Xz:=by unfold Xz;simp only[al,dk,aZ,rA];rfl
def Dv:al Yz=Yz:=by unfold Yz;simp only[al,rA];rfl
def ac9:ff aa 22 2 [(0,.list .tight 1 (ints [1,1])),(1,.list .tight 1 (ints [1,2]))]=J Xz:=by kernel_rfl
def acB:iy aa 25 [(0,Xz),(1,Yz)]=J (.agg [Xz,Yz]):=by kernel_rfl
def Rg(a):ff aa 23 1 [(0,.v (.int .i64 a))]=J (.list .tight 1 (ints [a])):=by kernel_rfl
def afn:pM Rz Oz 5 [7]=0:=by decide+kernel
def afm:ou Rz [5,7]=[(0,12),(1,19)]:=by decide+kernel
def atl(h:Heap):∃i d,SL i [(0,12),(1,19)]/\IL d Cz/\al i=i/\al d=d/\∃r h',SF.call 27 [] h=J (r,h')/\r=.ret (.tuple [.agg (aF 0 Xz Yz d),i]):=by
 obtain⟨i,d,j,e,q⟩:=ajw xc w7 (⟨.tight,1,O,λ_=>rfl⟩:IL (.list .tight 1 (ints [7])) [7]) aY aY 5 afn;rw[afm]at j;have e:IL d Cz:=e;rw[Du,Dv]at q;have t:al (.list .tight 1 (ints [7]))=.list .tight 1 (ints [7]):=by simp only[al,rA];rfl
 rw[t]at q;have o:=q.mN ⟨[],[],0,[]⟩;have l:al i=i:=by obtain⟨p,s,rfl,-⟩:=j;have n:U.tuple [.list (bU p) s (bN [(0,12),(1,19)]),dD ⟨[],[],0,[]⟩ d,I 0]=.tuple [.list p s (bN [(0,12),(1,19)]),d,I 0]:=o;have h2:=(P1 (U.tuple.inj n)).1;rw[al,Mo];exact h2
 have m:al d=d:=by obtain⟨p,s,rfl,-⟩:=e;have n:U.tuple [dD ⟨[],[],0,[]⟩ i,.list (bU p) s (ints Cz),I 0]=.tuple [i,.list p s (ints Cz),I 0]:=o;have h2:=(P1 (P1 (U.tuple.inj n)).2).1;rw[al,rA];exact h2
 have u:=(CQ q O O O O O O).call;refine⟨i,d,j,e,l,m,?_⟩;have A:=FM 1 1;have B:=FM 1 2;have b3:=ac9;have b4:=acB;have C:=Rg 7;have S:=aud;have T:=Zh;have D:=acC xc w7 e;have f:(U.agg [Xz,Yz]).bG=J [Xz,Yz]:=ua xc w7;have k:(U.agg (aF 0 Xz Yz d)).bG=J (aF 0 Xz Yz d):=mP xc w7 e;obtain⟨b,g⟩:∃b,(h.push (aF 0 nl nl nl)).push [Xz,Yz]=b:=⟨_,O⟩;have N:bY aa ((h.push (aF 0 nl nl nl)).push [nl,nl]) 25 (.ptr (.box (F (h.push (aF 0 nl nl nl)).boxes)) 0) (.agg [Xz,Yz])=J b:=by rw[<-g];exact kL f bD O O
 have t0:b.boxes[h.boxes.length]?=J (aF 0 nl nl nl):=by rw[<-g];exact aM (aK _ _)
 have t1:b.boxes[(h.push (aF 0 nl nl nl)).boxes.length]?=J [Xz,Yz]:=by rw[<-g];exact aK _ _
 have E:aD aa Gt b 25 (.ptr (.box (F (h.push (aF 0 nl nl nl)).boxes)) 0)=J (.agg [Xz,Yz]):=tV t1;have R:bY aa b 27 (.ptr (.box (F h.boxes)) 0) (.agg (aF 0 Xz Yz d))=J (b.put (F h.boxes) (aF 0 Xz Yz d)):=by rw[fE (off:=0) k BZ t0 O (aV 4)];rfl
 have L:aD aa Gt (b.put (F h.boxes) (aF 0 Xz Yz d)) 27 (.ptr (.box (F h.boxes)) 0)=J (.agg (aF 0 Xz Yz d)):=by rw[fC bD BZ (dn (aS.1 t0).1) (jq O)];rfl
 clear t0 t1 o q j e l m f;unfold Yz at *
 generalize Xz=y at *
 generalize aF 0 y (.list .tight 1 (ints [1,2])) d=K at *
 generalize aF 0 nl nl nl=v at *
 unfold I at *
 refine bL O Tryz.func27 O ?_;refine bg @ane ?_;exact⟨_,_,O,O⟩
def LG:List aQ:=LF++[20,29,27]
noncomputable def N6:aQ->Option (List U->Heap->Option (U × Heap)):=lh SF LG
noncomputable abbrev SG:=whole aa Gt N6
def xO:lW N6 LG:=rm
def Ag{g}{a}{y}(c:bK SF g a y)(b:LG.contains g=V):bK SG g a y:=c.up (L:=LG) b
def FW{g}{a}{y}(c:bK SC g a y)(b:LD.contains g=V)(d:LE.contains g=V)(e:LF.contains g=V)(f:LG.contains g=V):bK SG g a y:=Ag (xS ((c.mix (L:=LD) b).mix (L:=LE) d) e) f
def KO{g}{a}{y}(c:bK SD g a y)(b:LE.contains g=V)(d:LF.contains g=V)(e:LG.contains g=V):bK SG g a y:=Ag (xS (c.mix (L:=LE) b) d) e
def aeH{g}{a}{y}(c:bK SB g a y)(b:LC.contains g=V)(d:LD.contains g=V)(e:LE.contains g=V)(f:LF.contains g=V)(i:LG.contains g=V):bK SG g a y:=FW (c.mix (L:=LC) b) d e f i
def aeI{g}{a}{y}(c:bK W8 g a y)(b:LA.contains g=V)(h2:LB.contains g=V)(d:LC.contains g=V)(e:LD.contains g=V)(f:LE.contains g=V)(i:LF.contains g=V)(j:LG.contains g=V):bK SG g a y:=Ag (CQ c b h2 d e f i) j
section
variable {c:Ce} {a a2:CA}
def C7(ok:cD c a)(d:dz a)(b:c.Fit):bK SG 11 [.agg (aF c.ep a.X a.Y a.C),.agg (ba c.doc a.p a.r a.n),a.W] (.tuple [.agg (aq (gu c) (gt c a)),I c.eM]):=FW (Vo ok d b) O O O rfl
def agI(ok:cD c a)(d:dz a)(b:c.Fit):bK SG 12 [.agg (aF c.ep a.X a.Y a.C),.agg (ba c.doc a.p a.r a.n),a.W] (.tuple [.agg (aq (gu c) (gt c a)),I c.eM]):=FW (Vp ok d b) O O O rfl
def Lg(ok:cD c a)(d:dz a)(b:c.Fit):bK SG 14 [.agg (aq c a)] (I (eH c)):=KO (Vj ok d b) O O rfl
def agH(ok:cD c a)(d:dz a)(b:c.Fit):bK SG 15 [.agg (aq c a)] (I (eH c)):=KO (ajM ok d b) O O rfl
def agG(ok:cD c a)(e:dz a):∃b,(b=V->F c.rows<=80/\F c.ac<=80/\F c.ah<=80/\F c.doc.pa<=20/\F c.doc.rv<=20/\F c.doc.nd<=20/\F c.who<=80)/\bK SG 9 [.agg (aF c.ep a.X a.Y a.C),.agg (ba c.doc a.p a.r a.n),a.W] (.v (.bool b)):=by obtain⟨b,d,f⟩:=Vk ok e;exact⟨b,d,FW f O O O O⟩
def agF(ok:cD c a)(e:dz a):∃b,(b=V->F c.rows<=80/\F c.ac<=80/\F c.ah<=80/\F c.doc.pa<=20/\F c.doc.rv<=20/\F c.doc.nd<=20/\F c.who<=80/\F c.bT<=20/\F c.parts<=20)/\bK SG 10 [.agg (aq c a)] (.v (.bool b)):=by obtain⟨b,d,f⟩:=ajz ok e;exact⟨b,d,KO f O O O⟩
def Gj(ok:cD c a)(e:dz a)(j:rg a)(g:c.Fit)(f:F c.bT<1000000)(p:Pr):∃b,cD (lL c p) b/\dz b/\rg b/\bK SG 16 [.agg (aq c a),.agg (aL p)] (.tuple [.agg (aq (lL c p) b),I (mg c p).1]):=by
 obtain⟨b,d,h2,i,k⟩:=ajF ok e j g f p;refine⟨b,d,h2,i,Ag (xS (bK.qc (L:=LE) (k ⟨[],[],0,[]⟩) O (by simp only[aZ,al,oo e,HS]) (by simp only[aA,au,lm ok e];rfl) ?_ ?_) O) O⟩
 .simp only[dD,ir,FT d h2];rfl
 .simp[au,aA,lm d h2,I]
def Lh(ok:cD c a)(e:dz a)(j:rg a)(g:c.Fit)(f:F c.parts<1000000)(p:Int × Int):∃b,cD (nQ c p) b/\dz b/\rg b/\bK SG 18 [.agg (aq c a),.agg (bh p)] (.tuple [.agg (aq (nQ c p) b),I (mS c p).1]):=by
 obtain⟨b,d,h2,i,k⟩:=ajH ok e j g f p;refine⟨b,d,h2,i,Ag (xS (bK.qc (L:=LE) (k ⟨[],[],0,[]⟩) O (by simp only[aZ,al,oo e];rfl) (by simp only[aA,au,lm ok e];rfl) ?_ ?_) O) O⟩
 .simp only[dD,ir,FT d h2];rfl
 .simp[au,aA,lm d h2,I]
def agJ(ok:cD c a)(e:dz a)(d:cD c a2)(b:dz a2)(f:Cv c):bK SG 13 [.agg (aq c a),.agg (aq c a2)] (.v (.bool V)):=by obtain⟨_,_,g,rfl,-⟩:=aqM ⟨[],[],0,[]⟩ c a a2 ok d f;exact Ag (bK.qc (L:=LF) g O (by simp only[aZ,al,oo e,oo b]) (by simp only[aA,au,lm ok e,lm d b];rfl) O O) rfl
def agE(ok:cD c a)(b:dz a)(d:c.Fit)(e:eH c≠0∨F c.parts<F c.who):bK SG 20 [.agg (aq c a)] (.tuple [.agg [I 0,I 0],.list .nil 0 [],.v (.bool ai),I (eH c)]):=by obtain⟨_,_,f,rfl⟩:=aft ⟨[],[],0,[]⟩ ok b d e;exact bK.new (L:=LG) f O (by simp only[aZ,al,oo b]) (by simp only[aA,au,lm ok b];rfl) O rfl
def agD(ok:cD c a)(d:dz a)(j:c.Fit)(k:eH c=0)(m:¬F c.parts<F c.who)(f:F (cA (iR c.doc))<=1000000)(l:ij c.doc=V){g i e:Int}
 (b:iJ c.rows c.ac c.ep c.ah (cA (iR c.doc)) c.bT (c.parts.map mb)=((g,i),V,e)):bK SG 20 [.agg (aq c a)] (.tuple [.agg [I g,I i],.list .nil 0 [],.v (.bool V),I 0]):=by
 obtain⟨_,_,n,rfl⟩:=afu ⟨[],[],0,[]⟩ ok d j k m f l (by rw[b]);rw[b]at n;exact bK.new (L:=LG) n O (by simp only[aZ,al,oo d]) (by simp only[aA,au,lm ok d];rfl) O rfl
def Gi(k d f):bK SG 29 [I k,I d,I f] (.agg (aL (nO k d f))):=by obtain⟨_,_,b,rfl⟩:=aln ⟨[],[],0,[]⟩ k d f;exact bK.new (L:=LG) b O O O O rfl
def agK(ok:cD c a)(b:dz a)(e:c.Fit)(d:ij c.doc=V):∃T,BL T (cA (iR c.doc))/\al T=T/\bK SG 28 [.agg (ba c.doc a.p a.r a.n)] (.tuple [T,I 0]):=by obtain⟨T,f,h2,g⟩:=M' ok.d e.2.2.2.1;rw[b.p,b.r,b.n,av d]at g;exact⟨T,f d,h2,aeH g O O O O O⟩
end
def agL:∃f g,SL f [(0,12),(1,19)]/\IL g Cz/\al f=f/\al g=g/\bK SG 27 [] (.tuple [.agg (aF 0 Xz Yz g),f]):=by
 obtain⟨f,g,b,h2,d,e,_,_,l,rfl⟩:=atl ⟨[],[],0,[]⟩;refine⟨f,g,b,h2,d,e,bK.new (L:=LG) l O O O ?_ ?_⟩
 .obtain⟨n,o,j,-⟩:=b;obtain⟨k,m,i,-⟩:=h2;simp only[dD,ir,aF,p8 j d,p8 i e,p8 (show Xz=.list .tight 1 _ from O) Du,p8 (show Yz=.list .tight 1 _ from O) Dv]
 .obtain⟨-,f1⟩:=b.hold;obtain⟨-,f2⟩:=h2.hold;obtain⟨-,f3⟩:=xc.fc;obtain⟨-,f4⟩:=w7.hold;rw[d]at f1;rw[e]at f2;rw[Du]at f3;rw[Dv]at f4;simp[au,aA,aF,f1,f2,f3,f4]
def Yc(k):qU k k=V:=by cases k<;>simp[qU]
def IK:∀a b:List U,fL a a=V->fL b b=V->fL (a++b) (a++b)=V
 | [],b,_,e=>e
 |x::a,b,d,e=>by simp only[fL,bm]at d;rw[eu,fL,d.1,IK a b d.2 e];rfl
def Yd:∀l:List UInt8,fL (l.map fA) (l.map fA)=V
 | []=>rfl
 |x::l=>by rw[eD,fL,Yd l];simp[cH,gH,fA]
def X'(p):fL (aL p) (aL p)=V:=by simp[fL,cH,gH,aL]
def aqW(p):fL (bh p) (bh p)=V:=by simp[fL,cH,gH,bh]
def Ya:∀l:List Pr,ml (bH l) (bH l)=V
 | []=>rfl
 |x::l=>by show(fL (aL x) (aL x)&&ml (bH l) (bH l))=V;rw[X',Ya l];rfl
def Yb:∀l:List (Int × Int),ml (bN l) (bN l)=V
 | []=>rfl
 |x::l=>by show(fL (bh x) (bh x)&&ml (bN l) (bN l))=V;rw[aqW,Yb l];rfl
def PL.same{x}{l}(h:PL x l):cH x x=V:=by obtain⟨b,d,rfl,-⟩:=h;simp[cH,Yc,Ya]
def SL.same{x}{l}(h:SL x l):cH x x=V:=by obtain⟨b,d,rfl,-⟩:=h;simp[cH,Yc,Yb]
def OS{c}{a}(ok:cD c a):cH (.agg (aq c a)) (.agg (aq c a))=V:=by
 rw[cH];unfold aq ba;refine IK _ _ (IK _ _ ?_ (IK _ _ ?_ (Yd _))) ?_
 .simp[aF,fL,cH,gH,ok.x.same,ok.y.same,ok.cm.same]
 .simp[fL,cH,gH,I,ok.d.p.same,ok.d.r.same,ok.d.n.same]
 .simp[fL,ok.w.same,ok.pa.same,ok.z.same]
def cw(w:List Int)(d:Dc):Ce:=⟨Rz,Oz,0,Cz,d,w,[],[]⟩
def aw(b W:U):CA:=⟨Xz,Yz,b,nl,nl,nl,W,nl,nl⟩
def wZ:IL nl []:=⟨.nil,0,O,λb=>absurd O b⟩
def HK{j W}{w}{d}(g:IL j Cz)(i:IL W w)(b:d.pa=[])(h2:d.rv=[])(e:d.nd=[])(f:F d.tx=32):cD (cw w d) (aw j W):=
 ⟨xc,w7,g,⟨by rw[show(cw w d).doc.pa=[] from b];exact wZ,by rw[show(cw w d).doc.rv=[] from h2];exact wZ,by rw[show(cw w d).doc.nd=[] from e];exact wZ,f⟩,i,fK.pa,fK.z⟩
def LQ{b W}(d:al b=b)(e:al W=W):dz (aw b W):=⟨Du,Dv,d,O,O,O,e,O,O⟩
def Wk{b W}:rg (aw b W):=⟨λ_ _ h=>by cases h;rfl,λ_ _ h=>by cases h;rfl⟩
def K8{w}{d}(e:F w<=1000000)(b:d.sg):(cw w d).Fit:=⟨by show F Rz<=_;decide,by show F Cz<=_;decide,e,b,by show(F ([]:List Pr))<=_;decide,by show(F ([]:List (Int × Int)))<=_;decide⟩
def KM:i_.sg:=⟨aY,by decide,by decide⟩
def R9:d0.sg:=⟨aY,by decide,by decide⟩
def qC{l}{z}(b:F l<=1000000)(d:F z<=1000000):(cz l z).Fit:=⟨by show F Rz<=_;decide,by show F Cz<=_;decide,by show(F ([1,2]:List Int))<=_;decide,KM,b,d⟩
def agf:c0.Fit:=⟨aY,by decide,by decide,R9,by decide,by decide⟩
def NH{c}{a}{e}(h:c.eM=e)(b:e≠0):gu c=c0/\gt c a=a0:=by unfold gu gt;rw[aP (by rw[h];exact b),aP (by rw[h];exact b)];exact⟨O,O⟩
def alg{c}{a}(h:c.eM=0):gu c={c with bT:=[],parts:=[]}/\gt c a={a with Pa:=nl,Z:=nl}:=by unfold gu gt;rw[av h,av h];exact⟨O,O⟩
def Mq(l):al (.list .tight 1 (ints l))=.list .tight 1 (ints l):=by simp only[al,rA];rfl
def aue:(fM aa 31).bind U.bG=J (ba d0 nl nl nl):=by kernel_rfl
def acE:iy aa 31 [(0,I 3),(5,I 9)]=J (.agg (ba i_ nl nl nl)):=by kernel_rfl
def acD:iy aa 31 []=J (.agg (ba d0 nl nl nl)):=by kernel_rfl
def asQ:cB aa 31=J 41:=by kernel_rfl
def acG(k):iy aa 48 [(0,I k)]=J (.agg (bh (k,0))):=by kernel_rfl
def Q_(k z):iy aa 48 [(0,I k),(1,I z)]=J (.agg (bh (k,z))):=by kernel_rfl
def arF(k)(a b):gi aa 72 (.list k 2 (bN [a,b])) af (J (.v (.int .i64 1))) af=J (.list (pK k ai ai 1) 2 (bN [a])):=by kernel_rfl
def arG(k)(a b):gi aa 72 (.list k 2 (bN [a,b])) (J (.v (.int .i64 1))) af af=J (.list (pK k V ai 1) 2 (bN [b])):=by kernel_rfl
def rZ{H:Heap}{D}(d:F D=48)(b:(U.agg D).bG=J D):bY aa (H.push (aq c0 a0)) 35 (.ptr (.box (F H.boxes)) 0) (.agg D)=J (H.push D):=by rw[qg fK.len d b (aK _ _),lO]
def qN:Tryz.f8.results.toList=[.tmp 0]:=by kernel_rfl
def akT{b T}(l:IL b Cz)(g:al b=b)(j:BL T ur)(e:al T=T)(t)(s)(k d f):∀h,SG.call 30 [.agg (aF 0 Xz Yz b),T,.list .tight 4 (bH [dJ,df]),I k,.list t 2 (bN [s]),I d,I f] h=J (.ret (.tuple [I (oC Rz Oz 0 Cz ur [dJ,df] k [s] d f).1,I (oC Rz Oz 0 Cz ur [dJ,df] k [s] d f).2]),h):=by have i:PL (.list .tight 4 (bH [dJ,df])) [dJ,df]:=⟨_,_,O,λ_=>rfl⟩;have m:bK SF 30 _ _:=CQ (ajD (ep:=0) xc w7 l j i (⟨t,2,O,λ_=>rfl⟩:SL (.list t 2 (bN [s])) [s]) aY aY b7 k d f) O O O O O O;refine bK.use (L:=LG) m O ?_;simp only[aZ,al,GQ,aF,Du,Dv,g,e];rfl
def aqX(h:Heap):∃r h',SG.call 8 [] h=J (r,h')/\r=.ret (.v (.bool V)):=by
 obtain⟨z8,B,hU,hV,eU,eV,q27⟩:=agL;have c27:=q27.call;have i1:IL (.list .tight 1 (ints [1])) [1]:=⟨_,_,O,λ_=>rfl⟩;have i2:IL (.list .tight 1 (ints [2,1])) [2,1]:=⟨_,_,O,λ_=>rfl⟩;have i3:IL (.list .tight 1 (ints [1,2])) [1,2]:=⟨_,_,O,λ_=>rfl⟩;have o1:=HK (d:=i_) hV i1 O O O O;have o2:=HK (d:=i_) hV i2 O O O O;have o3:=HK (d:=d0) hV i3 O O O O;have p:cD (cz [] []) (aw B (.list .tight 1 (ints [1,2]))):=HK (d:=i_) hV i3 O O O O;have D:=LQ eV (Mq [1]);have t:=LQ eV (Mq [2,1]);have f:=LQ eV (Mq [1,2]);have n1:∀h,SG.call 11 [.agg (aF 0 Xz Yz B),.agg (ba i_ nl nl nl),.list .tight 1 (ints [1])] h=J (.ret (.tuple [.agg (aq c0 a0),I 440]),h):=by have j:=(C7 o1 D (K8 aY KM)).call;obtain⟨f1,f2⟩:=NH (c:=cw [1] i_) (a:=aw B (.list .tight 1 (ints [1]))) Zk aY;rw[f1,f2,show(cw [1] i_).eM=440 from Zk]at j;exact j
 have n2:∀h,SG.call 11 [.agg (aF 0 Xz Yz B),.agg (ba i_ nl nl nl),.list .tight 1 (ints [2,1])] h=J (.ret (.tuple [.agg (aq c0 a0),I 1]),h):=by have j:=(C7 o2 t (K8 aY KM)).call;obtain⟨f1,f2⟩:=NH (c:=cw [2,1] i_) (a:=aw B (.list .tight 1 (ints [2,1]))) Zl aY;rw[f1,f2,show(cw [2,1] i_).eM=1 from Zl]at j;exact j
 have n3:∀h,SG.call 11 [.agg (aF 0 Xz Yz B),.agg (ba d0 nl nl nl),.list .tight 1 (ints [1,2])] h=J (.ret (.tuple [.agg (aq c0 a0),I 170]),h):=by have j:=(C7 o3 f (K8 aY R9)).call;obtain⟨f1,f2⟩:=NH (c:=cw [1,2] d0) (a:=aw B (.list .tight 1 (ints [1,2]))) Zm aY;rw[f1,f2,show(cw [1,2] d0).eM=170 from Zm]at j;exact j
 have n4:∀h,SG.call 11 [.agg (aF 0 Xz Yz B),.agg (ba i_ nl nl nl),.list .tight 1 (ints [1,2])] h=J (.ret (.tuple [.agg (aq (cz [] []) (aw B (.list .tight 1 (ints [1,2])))),I 0]),h):=by have j:=(C7 p f (qC aY aY)).call;obtain⟨f1,f2⟩:=alg (c:=cz [] []) (a:=aw B (.list .tight 1 (ints [1,2]))) Zn;rw[f1,f2,show(cz [] []).eM=0 from Zn]at j;exact j
 obtain⟨a5,o5,-,-,q5⟩:=Lh p f Wk (qC aY aY) aY (1,0);have p5:nQ (cz [] []) (1,0)=c0:=by unfold nQ;rw[Zo];rfl
 rw[p5]at o5 q5;rw[Zo]at q5;have c5:=q5.call;have c6:=(agE p f (qC aY aY) (.inr aY)).call;rw[Zf]at c6;have c7:=(Lg fK wO agf).call;rw[zc0]at c7;have c8:=(Lg p f (qC aY aY)).call;rw[Zf]at c8;obtain⟨z0,hT,eT,q9⟩:∃z0,BL z0 ur/\al z0=z0/\bK SG 28 [.agg (ba i_ nl nl nl)] (.tuple [z0,I 0]):=agK p f (qC aY aY) Zj;have c9:=q9.call;have m1:∀h,SG.call 29 [I 1,I 100,I 101] h=J (.ret (.agg (aL dJ)),h):=(Gi 1 100 101).call;have m2:∀h,SG.call 29 [I 2,I 102,I 103] h=J (.ret (.agg (aL df)),h):=(Gi 2 102 103).call;have m3:=(Gi 2 1 2).call;have m4:=(Gi 3 1 2).call;obtain⟨a6,o6,h6,l6,qp1⟩:=Gj p f Wk (qC aY aY) aY df;have p6:lL (cz [] []) df=cz [df] []:=by unfold lL;rw[Zp];rfl
 rw[p6]at o6 qp1;rw[Zp]at qp1;have c10:=qp1.call;obtain⟨a7,y,h7,l7,qp2⟩:=Gj o6 h6 l6 (qC aY aY) (by show(F ([df]:List Pr))<_;decide) dJ;have p7:lL (cz [df] []) dJ=cz [dJ,df] []:=by unfold lL;rw[Zq];rfl
 rw[p7]at y qp2;rw[Zq]at qp2;have c11:=qp2.call;obtain⟨a8,o8,-,-,qp3⟩:=Gj y h7 l7 (qC aY aY) (by show(F ([dJ,df]:List Pr))<_;decide) (nO 2 1 2);rw[zp3]at qp3;have c12:=qp3.call;obtain⟨a9,o9,-,-,qp4⟩:=Gj y h7 l7 (qC aY aY) (by show(F ([dJ,df]:List Pr))<_;decide) (nO 3 1 2);rw[zp4]at qp4;have c13:=qp4.call;obtain⟨L,sU,rfl,G8⟩:=hU;have G8:=G8 b7;subst G8;have hL:PL (.list .tight 4 (bH [dJ,df])) [dJ,df]:=⟨_,_,O,λ_=>rfl⟩;have Ay:al (.list .tight 4 (bH [dJ,df]))=.list .tight 4 (bH [dJ,df]):=by simp only[al,GQ];rfl
 have mk:=λ(z6:Tok) (z5:Int × Int) (z4 z2 z3:Int)=>akT hV eV hT eT z6 z5 z4 z2 z3;have c14:=mk (pK L ai ai 1) (0,12) 1 100 101;have c15:=mk (pK L V ai 1) (1,19) 2 102 103;rw[zm1]at c14;rw[zm2]at c15;obtain⟨a10,S,Tj,l10,qp5⟩:=Lh y h7 l7 (qC aY aY) aY (2,bz);have p10:nQ (cz [dJ,df] []) (2,bz)=cz [dJ,df] [(2,bz)]:=by unfold nQ;rw[Zr];rfl
 rw[p10]at S qp5;rw[Zr]at qp5;have c16:=qp5.call;obtain⟨a11,Z,Tk,l11,qp6⟩:=Lh S Tj l10 (qC aY aY) (by show(F ([(2,bz)]:List (Int × Int)))<_;decide) (1,az);have p11:nQ (cz [dJ,df] [(2,bz)]) (1,az)=cz [dJ,df] [(1,az),(2,bz)]:=by unfold nQ;rw[Zs];rfl
 rw[p11]at Z qp6;rw[Zs]at qp6;have c17:=qp6.call;have c18:=(agD Z Tk (qC aY aY) zc5 aY Zt Zj zk).call;have qv:=aeI (ajR hT Zt (ag Cz 0) ez vK) O O O O O O O;rw[eT,show qY (ag Cz 0) ur ez vK=V from zv]at qv;have c19:=qv.call;have Ty:SL (.list L 2 (bN [(0,12),(1,19)])) [(0,12),(1,19)]:=⟨L,2,O,λ_=>rfl⟩;have lnU:dK aa 72 (.list L 2 (bN [(0,12),(1,19)]))=J (.v (.int .i64 2)):=Ty.dK;have lnN:dK aa 23 (.list .nil 0 [])=J (.v (.int .i64 0)):=wZ.dK;have lnV:dK aa 23 B=J (.v (.int .i64 2)):=hV.dK;have lnW:dK aa 23 (.list .tight 1 (ints [1,2]))=J (.v (.int .i64 2)):=i3.dK;have ixV:dH aa 23 B (.v (.int .i64 0))=J (.elem 1 (ints Cz) 0 0):=hV.ix (i:=0) aY;have ldV:∀H:Heap,aD aa Gt H 3 (.elem 1 (ints Cz) 0 0)=J (.v (.int .i64 (ag Cz 0))):=λH=>eJ aY;have ixP0:dH aa 32 (.list .tight 4 (bH [dJ,df])) (.v (.int .i64 0))=J (.elem 4 (bH [dJ,df]) 0 0):=hL.ix (i:=0) aY;have ixP1:dH aa 32 (.list .tight 4 (bH [dJ,df])) (.v (.int .i64 1))=J (.elem 4 (bH [dJ,df]) 1 0):=hL.ix (i:=1) aY;have ldP0:∀H:Heap,aD aa Gt H 46 (.elem 4 (bH [dJ,df]) 0 0)=J (.agg (aL dJ)):=λH=>p_ O;have ldP1:∀H:Heap,aD aa Gt H 46 (.elem 4 (bH [dJ,df]) 1 0)=J (.agg (aL df)):=λH=>p_ O;have sl1:=arF L (0,12) (1,19);have sl2:=arG L (0,12) (1,19);have bp:=ade dJ df;have bz1:=acG 1;have bz2:=Q_ 2 bz;have bz3:=Q_ 1 az;have bo:=Rg 1;have bo2:=FM 1 2;have bo3:=FM 2 1;have bdz:=acE;have bde:=acD;have be:=Ze;have z27:=Zh;have z31:=aue;have z35:=vN;have z52:=Jd;have f27:=λm=>iK (b:=m);have f35:=pN;have sD:=OS p;have sP:=X' df;have sP2:cH (.agg (aL df)) (.agg (aL df))=V:=by rw[cH];exact sP
 have sY:=OS y;have kcell:(U.agg (aF 0 Xz Yz B)).bG=J (aF 0 Xz Yz B):=mP xc w7 hV;have dcell:(U.agg (ba i_ nl nl nl)).bG=J (ba i_ nl nl nl):=o1.d.cells;obtain⟨H0,rt⟩:∃H,h.push (aF 0 Xz Yz B)=H:=⟨_,O⟩;obtain⟨H1,tD⟩:∃H,H0.push (ba i_ nl nl nl)=H:=⟨_,O⟩;obtain⟨H2,uM⟩:∃H,H1.push (aq c0 a0)=H:=⟨_,O⟩;obtain⟨H3,wK⟩:∃H,H2.push (aq c0 a0)=H:=⟨_,O⟩;obtain⟨N,yc⟩:∃H,H3.push (aq c0 a0)=H:=⟨_,O⟩;obtain⟨H5,uN⟩:∃H,N.push (aq (cz [] []) (aw B (.list .tight 1 (ints [1,2]))))=H:=⟨_,O⟩;obtain⟨H6,Y⟩:∃H,H5.push (aq c0 a5)=H:=⟨_,O⟩;obtain⟨e,Da⟩:∃H,H6.push [I 0,I 0]=H:=⟨_,O⟩;obtain⟨H8,Db⟩:∃H,e.push (aq (cz [df] []) a6)=H:=⟨_,O⟩;obtain⟨H9,Dd⟩:∃H,H8.put (F e.boxes) (aq (cz [dJ,df] []) a7)=H:=⟨_,O⟩;obtain⟨T,u⟩:∃H,H9.push (aq (lL (cz [dJ,df] []) (nO 2 1 2)) a8)=H:=⟨_,O⟩;obtain⟨k,Gs⟩:∃H,T.push (aq (lL (cz [dJ,df] []) (nO 3 1 2)) a9)=H:=⟨_,O⟩;obtain⟨H12,R⟩:∃H,k.push (aq (cz [dJ,df] [(2,bz)]) a10)=H:=⟨_,O⟩;obtain⟨A,Gu⟩:∃H,H12.put (F k.boxes) (aq (cz [dJ,df] [(1,az),(2,bz)]) a11)=H:=⟨_,O⟩;obtain⟨H14,Gv⟩:∃H,A.push [I ez,I vK]=H:=⟨_,O⟩;have s0:bY aa (h.push (aF 0 nl nl nl)) 27 (.ptr (.box (F h.boxes)) 0) (.agg (aF 0 Xz Yz B))=J H0:=by rw[<-rt];exact kL kcell BZ O O
 have s1:bY aa (H0.push (ba d0 nl nl nl)) 31 (.ptr (.box (F H0.boxes)) 0) (.agg (ba i_ nl nl nl))=J H1:=by rw[<-tD];exact kL dcell asQ O O
 have s2:bY aa (H1.push (aq c0 a0)) 35 (.ptr (.box (F H1.boxes)) 0) (.agg (aq c0 a0))=J H2:=by rw[<-uM];exact rZ fK.len fK.cells
 have s3:bY aa (H2.push (aq c0 a0)) 35 (.ptr (.box (F H2.boxes)) 0) (.agg (aq c0 a0))=J H3:=by rw[<-wK];exact rZ fK.len fK.cells
 have s4:bY aa (H3.push (aq c0 a0)) 35 (.ptr (.box (F H3.boxes)) 0) (.agg (aq c0 a0))=J N:=by rw[<-yc];exact rZ fK.len fK.cells
 have s5:bY aa (N.push (aq c0 a0)) 35 (.ptr (.box (F N.boxes)) 0) (.agg (aq (cz [] []) (aw B (.list .tight 1 (ints [1,2])))))=J H5:=by rw[<-uN];exact rZ p.len p.cells
 have s6:bY aa (H5.push (aq c0 a0)) 35 (.ptr (.box (F H5.boxes)) 0) (.agg (aq c0 a5))=J H6:=by rw[<-Y];exact rZ o5.len o5.cells
 have s7:bY aa (H6.push [I 0,I 0]) 52 (.ptr (.box (F H6.boxes)) 0) (.agg [I 0,I 0])=J e:=by rw[<-Da];exact kL O EW O O
 have s8:bY aa (e.push (aq c0 a0)) 35 (.ptr (.box (F e.boxes)) 0) (.agg (aq (cz [df] []) a6))=J H8:=by rw[<-Db];exact rZ o6.len o6.cells
 have t8:H8.boxes[e.boxes.length]?=J (aq (cz [df] []) a6):=by rw[<-Db];exact aK _ _
 have s9:bY aa H8 35 (.ptr (.box (F e.boxes)) 0) (.agg (aq (cz [dJ,df] []) a7))=J H9:=by rw[<-Dd];exact qg o6.len y.len y.cells t8
 have s10:bY aa (H9.push (aq c0 a0)) 35 (.ptr (.box (F H9.boxes)) 0) (.agg (aq (lL (cz [dJ,df] []) (nO 2 1 2)) a8))=J T:=by rw[<-u];exact rZ o8.len o8.cells
 have s11:bY aa (T.push (aq c0 a0)) 35 (.ptr (.box (F T.boxes)) 0) (.agg (aq (lL (cz [dJ,df] []) (nO 3 1 2)) a9))=J k:=by rw[<-Gs];exact rZ o9.len o9.cells
 have s12:bY aa (k.push (aq c0 a0)) 35 (.ptr (.box (F k.boxes)) 0) (.agg (aq (cz [dJ,df] [(2,bz)]) a10))=J H12:=by rw[<-R];exact rZ S.len S.cells
 have t12:H12.boxes[k.boxes.length]?=J (aq (cz [dJ,df] [(2,bz)]) a10):=by rw[<-R];exact aK _ _
 have s13:bY aa H12 35 (.ptr (.box (F k.boxes)) 0) (.agg (aq (cz [dJ,df] [(1,az),(2,bz)]) a11))=J A:=by rw[<-Gu];exact qg S.len Z.len Z.cells t12
 have s14:bY aa (A.push [I 0,I 0]) 52 (.ptr (.box (F A.boxes)) 0) (.agg [I ez,I vK])=J H14:=by rw[<-Gv];exact kL O EW O O
 have n0:F H0.boxes=F h.boxes+1:=by rw[<-rt,bF]
 have n1':F H1.boxes=F h.boxes+2:=by rw[<-tD,bF,n0]
 have n2':F H2.boxes=F h.boxes+3:=by rw[<-uM,bF,n1']
 have n3':F H3.boxes=F h.boxes+4:=by rw[<-wK,bF,n2']
 have n4':F N.boxes=F h.boxes+5:=by rw[<-yc,bF,n3']
 have n5':F H5.boxes=F h.boxes+6:=by rw[<-uN,bF,n4']
 have n6':F H6.boxes=F h.boxes+7:=by rw[<-Y,bF,n5']
 have n7':F e.boxes=F h.boxes+8:=by rw[<-Da,bF,n6']
 have n8':F H8.boxes=F h.boxes+9:=by rw[<-Db,bF,n7']
 have n9':F H9.boxes=F h.boxes+9:=by rw[<-Dd,jd,n8']
 have n11':F k.boxes=F h.boxes+11:=by rw[<-Gs,bF,<-u,bF,n9']
 have up:∀{z1:Heap} {m:Nat} {b cs2:List U},z1.boxes[m]?=J b->(z1.push cs2).boxes[m]?=J b:=λj=>aM j;have r1:∀{m:Nat} {b:List U},H1.boxes[m]?=J b->N.boxes[m]?=J b:=λj=>by rw[<-yc,<-wK,<-uM];exact up (up (up j))
 have r4:∀{m:Nat} {b:List U},N.boxes[m]?=J b->e.boxes[m]?=J b:=λj=>by rw[<-Da,<-Y,<-uN];exact up (up (up j))
 have r7:∀{m:Nat} {b:List U},e.boxes[m]?=J b->H9.boxes[m]?=J b:=λ{m b} j=>by have:=(aS.1 j).1;rw[<-Dd,cr M,<-Db];exact up j
 have r9:∀{m:Nat} {b:List U},H9.boxes[m]?=J b->k.boxes[m]?=J b:=λj=>by rw[<-Gs,<-u];exact up (up j)
 have r11:∀{m:Nat} {b:List U},k.boxes[m]?=J b->H14.boxes[m]?=J b:=λ{m b} j=>by have:=(aS.1 j).1;rw[<-Gv];refine up ?_;rw[<-Gu,cr M,<-R];exact up j
 have tk:H1.boxes[h.boxes.length]?=J (aF 0 Xz Yz B):=by rw[<-tD,<-rt];exact up (aK _ _)
 have td:H1.boxes[H0.boxes.length]?=J (ba i_ nl nl nl):=by rw[<-tD];exact aK _ _
 have tc:H5.boxes[N.boxes.length]?=J (aq (cz [] []) (aw B (.list .tight 1 (ints [1,2])))):=by rw[<-uN];exact aK _ _
 have r5:∀{m:Nat} {b:List U},H5.boxes[m]?=J b->e.boxes[m]?=J b:=λj=>by rw[<-Da,<-Y];exact up (up j)
 have lk:∀{z1:Heap},z1.boxes[h.boxes.length]?=J (aF 0 Xz Yz B)->aD aa Gt z1 27 (.ptr (.box (F h.boxes)) 0)=J (.agg (aF 0 Xz Yz B)):=λj=>by rw[fC bD BZ j (jq O)];rfl
 have lc:∀{z1:Heap},z1.boxes[h.boxes.length]?=J (aF 0 Xz Yz B)->aD aa Gt z1 23 (.ptr (.box (F h.boxes)) 3)=J B:=λj=>by rw[fe mE j];rfl
 have s:∀{m:Nat} {b:List U},H1.boxes[m]?=J b->H2.boxes[m]?=J b:=λj=>by rw[<-uM];exact up j
 have e0b:∀{m:Nat} {b:List U},H2.boxes[m]?=J b->H3.boxes[m]?=J b:=λj=>by rw[<-wK];exact up j
 have e0c:∀{m:Nat} {b:List U},H5.boxes[m]?=J b->H6.boxes[m]?=J b:=λj=>by rw[<-Y];exact up j
 have g1:=lk tk;have g2:=lk (s tk);have g3:=lk (e0b (s tk));have g4:=lk (r1 tk);have g5:=lk (r9 (r7 (r4 (r1 tk))));have g6:=lc (r4 (r1 tk));have g7:=lc (r11 (r9 (r7 (r4 (r1 tk)))));have Gq:F (ba i_ nl nl nl)=41:=o1.d.len;have d1:=rE Gq td;have d2:=rE Gq (s td);have d4:=rE Gq (r1 td);have d5:=rE Gq (r4 (r1 td));have x1:=ju p.len tc;have x2:=ju p.len (e0c tc);have x3:=ju p.len (r5 tc);have x3w:aD aa Gt e 23 (.ptr (.box (F N.boxes)) 45)=J (.list .tight 1 (ints [1,2])):=(hO p (r5 tc)).2.2.1;have y1:=ju o6.len t8;have t9:H9.boxes[e.boxes.length]?=J (aq (cz [dJ,df] []) a7):=by rw[<-Dd];exact dn M
 have y2:=ju y.len t9;have y3:=ju y.len (by rw[<-u];exact up t9:T.boxes[e.boxes.length]?=J (aq (cz [dJ,df] []) a7));have y4:=ju y.len (r9 t9);have y5:=ju S.len t12;have x4:=ju p.len (up (cs2:=aq c0 a0) (r5 tc));have y7:=ju y.len (up (cs2:=aq c0 a0) t9);have y8:=ju y.len (up (cs2:=aq c0 a0) (by rw[<-u];exact up t9:T.boxes[e.boxes.length]?=J (aq (cz [dJ,df] []) a7)));have t13:A.boxes[k.boxes.length]?=J (aq (cz [dJ,df] [(1,az),(2,bz)]) a11):=by rw[<-Gu];exact dn (by rw[<-R,bF];omega)
 have y6:=ju Z.len t13;have vS:=yS (by rw[<-Gv];exact aK A [I ez,I vK]:H14.boxes[A.boxes.length]?=J [I ez,I vK]);clear q27 i1 i2 i3 o1 o2 o3 p D t f q5 p5 o5 hT q9 o6 h6 l6 qp1 p6 y h7 l7 qp2 p7 o8 qp3 o9 qp4 hL Ay mk S Tj l10 qp5 p10 Z Tk l11 qp6 p11 qv Ty hV eU G8 eT eV kcell dcell up r1 r4 r7 r9 r11 tk td tc r5 lk lc s e0b e0c t8 t9 t12 t13 n0 n1' n2' n3' n4' n5' n6' n7' n8' n9' n11' rt tD uM wK yc uN Y Da Db Dd u Gs R Gu Gv;simp only at c5 c10 c11 c16 c17;generalize aF 0 Xz Yz B=K at *
 generalize aF 0 nl nl nl=K0 at *
 generalize ba i_ nl nl nl=z7 at *
 generalize ba d0 nl nl nl=D0 at *
 generalize aq (cz [] []) (aw B (.list .tight 1 (ints [1,2])))=DA at *
 generalize aq c0 a5=D5 at *
 generalize aq (cz [df] []) a6=D6 at *
 generalize aq (cz [dJ,df] []) a7=D7 at *
 generalize aq (lL (cz [dJ,df] []) (nO 2 1 2)) a8=D8 at *
 generalize aq (lL (cz [dJ,df] []) (nO 3 1 2)) a9=D9 at *
 generalize aq (cz [dJ,df] [(2,bz)]) a10=D10 at *
 generalize aq (cz [dJ,df] [(1,az),(2,bz)]) a11=D11 at *
 generalize aq c0 a0=Z0 at *
 generalize aL dJ=B1 at *
 generalize aL df=B2 at *
 generalize aL (nO 2 1 2)=B3 at *
 generalize aL (nO 3 1 2)=B4 at *
 generalize bH [dJ,df]=X at *
 generalize bN [(0,12),(1,19)]=SU at *
 generalize bN [(0,12)]=SU1 at *
 generalize bN [(1,19)]=SU2 at *
 generalize bh (1,0)=R0 at *
 generalize bh (2,bz)=R2 at *
 generalize bh (1,az)=R1 at *
 generalize ints Cz=CzL at *
 generalize ag Cz 0=key at *
 generalize az=va at *
 generalize bz=vb at *
 generalize ez=ve at *
 generalize vK=vs at *
 unfold I at *
 refine bL O Tryz.func8 O ?_;refine bg @qN ?_;refine bC.gen λs C g' ek dm=>?_;have q0_0:s.get 0=.v (.bool ai):=by rw[C];exact gS
 have q0_1:s.get 1=.ptr (.box (F h.boxes)) 0:=by rw[C];exact gS
 have q0_2:s.get 2=.list L 2 SU:=by rw[C];exact gS
 have q0_10:s.get 10=.ptr (.box (F N.boxes)) 0:=by rw[C];exact gS
 have q0_18:s.get 18=z0:=by rw[C];exact gS
 have q0_19:s.get 19=.v (.int .i64 0):=by rw[C];exact gS
 have q0_20:s.get 20=.list .tight 4 X:=by rw[C];exact gS
 have q0_d:s.defers=[]:=by rw[g'];exact gS
 clear C g' ek dm c27 n1 n2 n3 n4 c5 c6 c7 c8 c9 m1 m2 s0 s1 s2 s3 s4 s5 s6 s7 g1 g2 g3 g4 d1 d2 d4 d5 x1 x2 x3w bo bo2 bo3 bdz bde be z27 z31 lnN lnW lnU bp bz1 g6;refine iC [(0,8),(3,8)] xO bD (λz hz=>?_) ?_
 .simp only[gL,qp,or_false]at hz;rcases hz with rfl|rfl
  .refine kJ (x:=.ptr (.box (F N.boxes)) 0) (v:=.agg DA) bD O O O bD (sD) ?_ ?_<;>(simp only[dw,cX];exact dV @qN @and_self)
  .refine kJ (x:=.elem 4 X 1 0) (v:=.agg B2) bD O O O bD (sP2) ?_ ?_<;>(simp only[dw,cX];exact dV @qN @and_self)
 refine bg @qN ?_;refine bC.gen λD q hC GU uW=>?_;have q1_0:D.get 0=.v (.bool ai):=by rw[q];exact gA
 have q1_1:D.get 1=.ptr (.box (F h.boxes)) 0:=by rw[q];exact gA
 have q1_2:D.get 2=.list L 2 SU:=by rw[q];exact gA
 have q1_18:D.get 18=z0:=by rw[q];exact gA
 have q1_19:D.get 19=.v (.int .i64 0):=by rw[q];exact gA
 have q1_20:D.get 20=.list .tight 4 X:=by rw[q];exact gA
 have q1_21:D.get 21=.ptr (.box (F e.boxes)) 0:=by rw[q];exact gA
 have q1_22:D.get 22=.v (.int .i64 0):=by rw[q];exact gA
 have q1_d:D.defers=[]:=by rw[hC];exact gA
 clear q hC GU uW q0_0 q0_1 q0_2 q0_10 q0_18 q0_19 q0_20 q0_d c10 s8 x3 x4 sD sP sP2 ixP1 ldP1;refine du xO bD ?_;refine bg @qN ?_;refine bC.gen λt o jk rB GZ=>?_;have q2_0:t.get 0=.v (.bool ai):=by rw[o];exact gA
 have q2_1:t.get 1=.ptr (.box (F h.boxes)) 0:=by rw[o];exact gA
 have q2_2:t.get 2=.list L 2 SU:=by rw[o];exact gA
 have q2_18:t.get 18=z0:=by rw[o];exact gA
 have q2_19:t.get 19=.v (.int .i64 0):=by rw[o];exact gA
 have q2_20:t.get 20=.list .tight 4 X:=by rw[o];exact gA
 have q2_21:t.get 21=.ptr (.box (F e.boxes)) 0:=by rw[o];exact gA
 have q2_22:t.get 22=.v (.int .i64 0):=by rw[o];exact gA
 have q2_23:t.get 23=.v (.int .i64 0):=by rw[o];exact gA
 have q2_d:t.defers=[]:=by rw[jk];exact gA
 clear o jk rB GZ q1_0 q1_1 q1_2 q1_18 q1_19 q1_20 q1_21 q1_22 q1_d c11 s9 y1 ixP0 ldP0;refine iC [(0,6)] xO bD (λz hz=>?_) ?_
 .simp only[hY]at hz;subst hz;refine kJ (x:=.ptr (.box (F e.boxes)) 0) (v:=.agg D7) bD O O O bD (sY) ?_ ?_<;>(simp only[dw,cX];exact dV @qN @and_self)
 refine bg @qN ?_;refine bC.gen λf l pT hp3 hr3=>?_;have q3_0:f.get 0=.v (.bool ai):=by rw[l];exact gA
 have q3_1:f.get 1=.ptr (.box (F h.boxes)) 0:=by rw[l];exact gA
 have q3_2:f.get 2=.list L 2 SU:=by rw[l];exact gA
 have q3_18:f.get 18=z0:=by rw[l];exact gA
 have q3_19:f.get 19=.v (.int .i64 0):=by rw[l];exact gA
 have q3_20:f.get 20=.list .tight 4 X:=by rw[l];exact gA
 have q3_21:f.get 21=.ptr (.box (F e.boxes)) 0:=by rw[l];exact gA
 have q3_22:f.get 22=.v (.int .i64 0):=by rw[l];exact gA
 have q3_23:f.get 23=.v (.int .i64 0):=by rw[l];exact gA
 have q3_25:f.get 25=.v (.int .i64 151):=by rw[l];exact gA
 have q3_d:f.defers=[]:=by rw[pT];exact gA
 clear l pT hp3 hr3 q2_0 q2_1 q2_2 q2_18 q2_19 q2_20 q2_21 q2_22 q2_23 q2_d c12 m3 s10 y2 y7;refine iC [(0,6)] xO bD (λz hz=>?_) ?_
 .simp only[hY]at hz;subst hz;refine kJ (x:=.ptr (.box (F e.boxes)) 0) (v:=.agg D7) bD O O O bD (sY) ?_ ?_<;>(simp only[dw,cX];exact dV @qN @and_self)
 refine bg @qN ?_;refine bC.gen λE g rx yA yE=>?_;have q4_0:E.get 0=.v (.bool ai):=by rw[g];exact gA
 have q4_1:E.get 1=.ptr (.box (F h.boxes)) 0:=by rw[g];exact gA
 have q4_2:E.get 2=.list L 2 SU:=by rw[g];exact gA
 have q4_18:E.get 18=z0:=by rw[g];exact gA
 have q4_19:E.get 19=.v (.int .i64 0):=by rw[g];exact gA
 have q4_20:E.get 20=.list .tight 4 X:=by rw[g];exact gA
 have q4_21:E.get 21=.ptr (.box (F e.boxes)) 0:=by rw[g];exact gA
 have q4_22:E.get 22=.v (.int .i64 0):=by rw[g];exact gA
 have q4_23:E.get 23=.v (.int .i64 0):=by rw[g];exact gA
 have q4_25:E.get 25=.v (.int .i64 151):=by rw[g];exact gA
 have q4_27:E.get 27=.v (.int .i64 420):=by rw[g];exact gA
 have q4_d:E.defers=[]:=by rw[rx];exact gA
 clear g rx yA yE q3_0 q3_1 q3_2 q3_18 q3_19 q3_20 q3_21 q3_22 q3_23 q3_25 q3_d c13 m4 s11 y3 y8 sY;refine du xO bD ?_;refine bg @qN ?_;refine du xO bD ?_;refine bg @qN ?_;refine bC.gen λn d Dp Mu DJ=>?_;have q5_0:n.get 0=.v (.bool ai):=by rw[d];exact gA
 have q5_1:n.get 1=.ptr (.box (F h.boxes)) 0:=by rw[d];exact gA
 have q5_18:n.get 18=z0:=by rw[d];exact gA
 have q5_19:n.get 19=.v (.int .i64 0):=by rw[d];exact gA
 have q5_22:n.get 22=.v (.int .i64 0):=by rw[d];exact gA
 have q5_23:n.get 23=.v (.int .i64 0):=by rw[d];exact gA
 have q5_25:n.get 25=.v (.int .i64 151):=by rw[d];exact gA
 have q5_27:n.get 27=.v (.int .i64 420):=by rw[d];exact gA
 have q5_29:n.get 29=.v (.int .i64 0):=by rw[d];exact gA
 have q5_31:n.get 31=.v (.int .i64 0):=by rw[d];exact gA
 have q5_33:n.get 33=.v (.int .i64 0):=by rw[d];exact gA
 have q5_34:n.get 34=.v (.int .i64 0):=by rw[d];exact gA
 have q5_35:n.get 35=.ptr (.box (F A.boxes)) 0:=by rw[d];exact gA
 have q5_37:n.get 37=.v (.bool V):=by rw[d];exact gA
 have q5_38:n.get 38=.v (.int .i64 0):=by rw[d];exact gA
 have q5_d:n.defers=[]:=by rw[Dp];exact gA
 clear d Dp Mu DJ q4_0 q4_1 q4_2 q4_18 q4_19 q4_20 q4_21 q4_22 q4_23 q4_25 q4_27 q4_d c14 c15 c16 c17 c18 s12 s13 s14 y4 y5 y6 g5 sl1 sl2 bz2 bz3;refine du xO bD ?_;refine bg @qN ?_;exact⟨_,_,O,O⟩
def LH:List aQ:=LG++[8]
noncomputable def N7:aQ->Option (List U->Heap->Option (U × Heap)):=lh SG LH
noncomputable abbrev SH:=whole aa Gt N7
def adN:lW N7 LH:=rm
def zy{g}{a b}{y}(c:bK SG g a y)(e:LH.contains g=V)(d:aZ b=a):∀h,SH.call g b h=J (.ret y,h):=bK.use (L:=LH) c e d
def aqY:∀h,SH.call 8 [] h=J (.ret (.v (.bool V)),h):=by obtain⟨_,_,b,rfl⟩:=aqX ⟨[],[],0,[]⟩;exact bR (L:=LH) O O O b O rfl
def hA(a:CA):CA:=⟨al a.X,al a.Y,al a.C,al a.p,al a.r,al a.n,al a.W,al a.Pa,al a.Z⟩
def wJ(a):dz (hA a):=⟨lF _,lF _,lF _,lF _,lF _,lF _,lF _,lF _,lF _⟩
section
variable {c:Ce} {a:CA}
def Tl(ok:cD c a):cD c (hA a):=⟨ok.x.fc.1,ok.y.hold.1,ok.cm.hold.1,⟨ok.d.p.hold.1,ok.d.r.hold.1,ok.d.n.hold.1,ok.d.t⟩,ok.w.hold.1,ok.pa.fc.1,ok.z.hold.1⟩
def ahu(c)(a):aZ (aq c a)=aq c (hA a):=by unfold aq aF;rw[uU,uU,wt];simp only[aZ];rfl
def alh(h:c.eM=0):cG c.rows c.ac=0:=by
 unfold Ce.eM NT.eM at h;split at h
 .rename_i b;exact absurd h b
 .rename_i b;simpa using b
def arn(h:c.eM=0)(b:F c.ah<=1000000)(h2:F c.doc.pa<=1000000/\F c.doc.rv<=1000000/\F c.doc.nd<=1000000)(d:F c.who<=1000000)(e:F c.bT<=1000000)(f:F c.parts<=1000000):Cv c:=by obtain⟨j,k,i,-⟩:=ub (alh h);exact⟨M,by omega,λl g=>by have:=(i l g).2.2.1;omega,b,h2,d,e,f⟩
def arm(b:F c.ah<=1000000)(h2:F c.doc.pa<=1000000/\F c.doc.rv<=1000000/\F c.doc.nd<=1000000)(d:F c.who<=1000000):Cv (gu c):=by
 unfold gu;split
 .rename_i e;exact arn (c:={c with bT:=[],parts:=[]}) e b h2 d (bV _) (bV _)
 .exact arl
end
def Er:Tryz.f3.results.toList=[.tmp 8]:=by kernel_rfl
def ajW(h:Heap)(k c:Ce)(b a:CA)(d:cD k b)(ok:cD c a)(E:k.bT=[])(L:k.parts=[]):
 ∃r h',SH.call 3 [.agg (aF k.ep b.X b.Y b.C),.agg (ba k.doc b.p b.r b.n),b.W,.agg (aq c a)] h=J (r,h')/\r=.ret (.v (.bool V)):=by
 have cs:=aqY;have e:=Tl d;have m:=Tl ok;have l:aZ [.agg (aF k.ep b.X b.Y b.C),.agg (ba k.doc b.p b.r b.n),b.W]=[.agg (aF k.ep (hA b).X (hA b).Y (hA b).C),.agg (ba k.doc (hA b).p (hA b).r (hA b).n),(hA b).W]:=by simp only[aZ,al,wt,aF];rfl
 have j:aZ [.agg (aq c a)]=[.agg (aq c (hA a))]:=by simp only[aZ,al,ahu]
 obtain⟨u,q,f9⟩:=agG e (wJ b);obtain⟨A,s,f10⟩:=agF m (wJ a);have c9:=zy f9 O l;have c10:=zy f10 O j;have bk:=mP (ep:=k.ep) d.x d.y d.cm;have bd:=d.d.cells;have bc:=ok.cells;have z35:=vN;obtain⟨H,p⟩:∃H,((h.push (aF k.ep b.X b.Y b.C)).push (ba k.doc b.p b.r b.n)).push (aq c a)=H:=⟨_,O⟩;have X:=bF h (aF k.ep b.X b.Y b.C);have Y:F ((h.push (aF k.ep b.X b.Y b.C)).push (ba k.doc b.p b.r b.n)).boxes=F h.boxes+2:=by rw[bF,bF]
 have t0:H.boxes[h.boxes.length]?=J (aF k.ep b.X b.Y b.C):=by rw[<-p];exact aM (aM (aK _ _))
 have t1:H.boxes[F h.boxes+1]?=J (ba k.doc b.p b.r b.n):=by rw[<-p];refine aM ?_;have:=aK (h.push (aF k.ep b.X b.Y b.C)) (ba k.doc b.p b.r b.n);rwa [X]at this
 have t2:H.boxes[F h.boxes+2]?=J (aq c a):=by rw[<-p];have:=aK ((h.push (aF k.ep b.X b.Y b.C)).push (ba k.doc b.p b.r b.n)) (aq c a);rwa [Y]at this
 have y:∀{z0:Heap},z0.boxes[h.boxes.length]?=J (aF k.ep b.X b.Y b.C)->aD aa Gt z0 27 (.ptr (.box (F h.boxes)) 0)=J (.agg (aF k.ep b.X b.Y b.C)):=λz2=>by rw[fC bD BZ z2 (jq O)];rfl
 have l0:=y t0;have l1:=rE d.d.len t1;have l2:=ju ok.len t2;by_cases D:u=V/\A=V;rotate_left 1
 .have D:u=ai∨(u=V/\A=ai):=by cases u<;>cases A<;>simp_all
  clear d ok e m l j q s f9 f10 t0 t1 t2 y E L;generalize aF k.ep b.X b.Y b.C=K at *
  generalize ba k.doc b.p b.r b.n=z1 at *
  generalize aq c a=N at *
  refine bL O Cw O ?_;rcases D with rfl|⟨rfl,rfl⟩<;>(
   refine cK @Er @a_ @p ?_;exact⟨_,_,O,O⟩)
 obtain⟨rfl,rfl⟩:=D;obtain⟨Z,s2,s3,s4,s5,s6,s7⟩:=q O;obtain⟨u1,u2,u3,u4,u5,u6,u7,u8,u9⟩:=s O;have C:k.Fit:=⟨M,by omega,by omega,⟨M,by omega,by omega⟩,by rw[E];exact bV _,by rw[L];exact bV _⟩;have B:c.Fit:=⟨M,by omega,by omega,⟨M,by omega,by omega⟩,by omega,by omega⟩;have c11:=zy (C7 e (wJ b) C) O l;have c12:=zy (agI e (wJ b) C) O l;have c14:=zy (Lg m (wJ a) B) O j;have c15:=zy (agH m (wJ a) B) O j;have g:=rI e;have t:=agJ g (Bf (wJ b)) g (Bf (wJ b)) (arm M ⟨M,by omega,by omega⟩ M);have c13:=zy t O t.held;obtain⟨f,i⟩:∃f,H.push (aq (gu k) (gt k (hA b)))=f:=⟨_,O⟩;obtain⟨o,n⟩:∃o,f.push (aq (gu k) (gt k (hA b)))=o:=⟨_,O⟩;have v1:bY aa (H.push (aq c0 a0)) 35 (.ptr (.box (F H.boxes)) 0) (.agg (aq (gu k) (gt k (hA b))))=J f:=by rw[<-i];exact rZ g.len g.cells
 have v2:bY aa (f.push (aq c0 a0)) 35 (.ptr (.box (F f.boxes)) 0) (.agg (aq (gu k) (gt k (hA b))))=J o:=by rw[<-n];exact rZ g.len g.cells
 have S:f.boxes[h.boxes.length]?=J (aF k.ep b.X b.Y b.C):=by rw[<-i];exact aM t0
 have T:f.boxes[F h.boxes+1]?=J (ba k.doc b.p b.r b.n):=by rw[<-i];exact aM t1
 have l3:=y S;have l4:=rE d.d.len T;have l5:=ju ok.len (by rw[<-n,<-i];exact aM (aM t2):o.boxes[F h.boxes+2]?=J (aq c a));have l6:=ju g.len (by rw[<-n,<-i];exact aM (aK _ _):o.boxes[H.boxes.length]?=J (aq (gu k) (gt k (hA b))));have l7:=ju g.len (by rw[<-n];exact aK _ _:o.boxes[f.boxes.length]?=J (aq (gu k) (gt k (hA b))));have sC:=OS ok;clear d ok e m l j q s f9 f10 t t0 t1 t2 y E L C B g S T Z s2 s3 s4 s5 s6 s7 u1 u2 u3 u4 u5 u6 u7 u8 u9;generalize aF k.ep b.X b.Y b.C=K at *
 generalize ba k.doc b.p b.r b.n=z1 at *
 generalize aq c a=N at *
 generalize aq (gu k) (gt k (hA b))=z3 at *
 generalize aq c0 a0=Z0 at *
 generalize k.eM=e1 at *
 generalize eH c=e2 at *
 unfold I at *
 refine bL O Cw O ?_;refine cK @Er @a_ @p ?_;refine iC [(10,11)] adN bD (λz R=>?_) ?_
 .simp only[hY]at R;subst R;refine O2 (x:=.ptr (.box (F h.boxes+2)) 0) (v:=.agg N) bD O O bD sC ?_ ?_
  .simp only[dw,cX];refine bg @Er ?_;refine⟨by trivial,?_,by trivial,by trivial⟩;simp[et,ET]
  .simp only[dw,cX];refine bg @Er ?_;exact⟨by trivial,by trivial⟩
 repeat' (first|simp(maxSteps:=9999999) (disch:=first|exact dZ|fail) only[gW,reduceIte,aJ,aB,Er, *]|refine dX ?_ ?_<;>(intro _;try omega))
 all_goals exact⟨_,_,O,O⟩
end Go.Proofs.YtcbhpkjbiehcpaaGreatDoor
end
section
namespace Go.Proofs.YtcbhpkjbiehcpaaGreatDoor
open Go.AE Go.NT Go.RowKit
def aq6:ownKnob aa.godebug=af:=am
def aq4:(aa.funcs.all λfn=>match fn.body with|some c=>codeOk fn.ntmps c|none=>V)=V:=am
def aq5 : (aa.funcs.all λfn => !(fn.name == "runtime.NumGoroutine")) = V := am
def nt:Prog aa:=⟨λe b h=>by
 have:=E_.1 aq5 b (Zw h);simpa using this,am,λe b c h d=>by
 have:=E_.1 aq4 b (Zw h);simpa [d] using this⟩
def nJ:∀g cs,Gt g=J cs->aA 0 0 0 cs=V:=by
 intro g cs h;unfold Gt at h;split at h
 .injection h with h;subst h;kernel_rfl
 .split at h
  .injection h with h;subst h;kernel_rfl
  .split at h
   .injection h with h;subst h;rfl
   .cases h
noncomputable def adp(L:List aQ):Bool:=L.all λd=>match aa.funcs[d]? with|some b=>b.body.isSome|none=>ai
def k'{L}(h:adp L=V):∀g∈L,∃fn,aa.funcs[g]?=J fn/\fn.body.isSome=V:=by
 intro g d;have:=eF.1 h g d;split at this
 .rename_i fn b;exact⟨fn,b,this⟩
 .cases this
def ny(p:aQ->Option (List U->Heap->Option (U × Heap))):Prop:=∀e b d,p b=J d->jV aa Gt e b d
def ams:ny aI:=λb d e h=>by cases h
def amt:ny N0:=rk nt nJ ams (k' am)
def amu:ny N1:=rk nt nJ amt (k' am)
def amv:ny N2:=rk nt nJ amu (k' am)
def amw:ny Bs:=rk nt nJ amv (k' am)
def amx:ny Bt:=ak0 nt nJ amw (k' am) (k' am)
def amy:ny N3:=rk nt nJ amx (k' am)
def EU:List Int:=NT.start.map λb=>((b.toNat:Nat):Int)
def Eh:List Int:=NT.A7.map λ(b:Nat)=>(b:Int)
def Y0{K}{l:List Int}:aH K (l.map λn=>U.v (.int .u32 n)) (l.map λn=>Value.int .u32 n):=by
 induction l with
 |nil=>exact .nil|cons n l b=>exact .cons _ _ _ _ (.v _ O) b
def ahi{W}(h:laidMetH aa Rows.ceremonySpecRow.laid W):∀g cs,Gt g=J cs->∃cells,aH (aW.init W) cs cells/\∀(j:Nat) (c:aG),cells[j]?=J c->W.cell? ⟨g,j,af⟩=J c:=by
 rw[MakeChecks.laidMetH_plain _ _ _ am]at h;have o:(Lib.tabData .u32 EU:DataW Unit)=Rows.laid_signatory_digest_start:=am;have p:(Lib.tabData .u32 Eh:DataW Unit)=Rows.laid_signatory_digest_numbers:=am;intro g cs b;unfold Gt at b;split at b
 .rename_i l;injection b with b;subst b;subst l;have n := Lib.tabIs_of_head (n := 8) (g := 0) (t := 256) (e := 69) (zs := EU) (k := .u32) (name := "signatory/digest.start") am am am am am am (by rw [o]; exact h);refine⟨EU.map λi=>Value.int .u32 i,?_,λj c d=>?_⟩
  .have:O5=EU.map λi=>U.v (.int .u32 i):=(by unfold O5 EU bM;rw[zK];rfl);rw[this];exact Y0
  .rw[dW,dg]at d;obtain⟨i,f,rfl⟩:=d;have m:=(aS.1 f).1;rw[n.cell am j m,eG,f];rfl
 .split at b
  .rename_i _ l;injection b with b;subst b;subst l;have n := Lib.tabIs_of_head (n := 64) (g := 1) (t := 266) (e := 69) (zs := Eh) (k := .u32) (name := "signatory/digest.numbers") am am am am am am (by rw [p]; exact h.tail);refine⟨Eh.map λi=>Value.int .u32 i,?_,λj c d=>?_⟩
   .have:Eg=Eh.map λi=>U.v (.int .u32 i):=(by unfold Eg Eh;rw[zK];rfl);rw[this];exact Y0
   .rw[dW,dg]at d;obtain⟨i,f,rfl⟩:=d;have m:=(aS.1 f).1;rw[n.cell am j m,eG,f];rfl
  .split at b
   .injection b with b;subst b;exact⟨[],.nil,λj c d=>by simp at d⟩
   .cases b
section
variable {H:Type}
def Ae:aa.cellsOf 3=1:=am
def cc5:aa.cellsOf 5=1:=am
def ad7:aa.cellsOf 22=1:=am
def CP:aa.cellsOf 23=1:=am
def ad8:aa.cellsOf 25=2:=am
def ass:uq aa 25 [(22,0),(23,1)]=V:=am
def yh{cs:List U}{d:DataW H}(h:Has aa 23 cs d):∃x l,cs=[x]/\IL x l:=by
 obtain⟨k,b,rfl,j,-,-,f⟩:=h.zo cT;obtain⟨l,rfl⟩:∃l:List Int,b=l.map tT:=Iq λn i=>by obtain⟨-,d,e⟩:=f n i;obtain⟨m,g,-⟩:=e.nL mD;exact⟨m,g⟩
 exact⟨_,l,O,k,_,O,λ_=>Ae⟩
def ahG{cs:List U}{d:DataW H}(h:Has aa 22 cs d):∃x rows,cs=[x]/\RL x rows:=by
 obtain⟨u,b,rfl,q,-,-,m⟩:=h.zo gm;have j:∀g∈b,∃x o,g=[x]/\IL x o:=λg e=>by obtain⟨-,d,p⟩:=m g e;exact yh p
 clear q m;have n:∀b:List (List U),(∀g∈b,∃x o,g=[x]/\IL x o)->∃(f:List U) (rows:List (List Int)),b=f.map (λa=>[a])/\F f=F rows/\∀(l:Nat) (a:U) (g:List Int),f[l]?=J a->rows[l]?=J g->IL a g:=by
  intro b
  induction b with
  |nil=>intro _;exact⟨[],[],O,O,λl a g i=>by simp at i⟩|cons t b s=>
   intro j;obtain⟨x,o,rfl,r⟩:=j t gx;obtain⟨f,rows,rfl,k,h2⟩:=s λg e=>j g (gj _ e);refine⟨x::f,o::rows,O,by simp[k],λl a g i e=>?_⟩;cases l with|zero=>simp at i e;subst i;subst e;exact r|succ l=>exact h2 l a g (by simpa using i) (by simpa using e)
 obtain⟨f,rows,rfl,k,h2⟩:=n b j;exact⟨_,rows,O,u,_,f,O,λ_=>CP,k,h2⟩
end
def amz:ny HT:=rk nt nJ amy (k' am)
def amA:ny N4:=rk nt nJ amz (k' am)
def amB:ny N5:=rk nt nJ amA (k' am)
def amC:ny Bu:=rk nt nJ amB (k' am)
def amD:ny lM:=Hw nt nJ amC (k' am) (λb h=>absurd O h) MZ
def amE:ny HU:=Hw nt nJ amD (k' am) (λd h=>by
 unfold ZD at h;split at h
 .rename_i b;subst b;exact k' (L:=[16]) am _ (.head _)
 .split at h
  .rename_i b;subst b;exact k' (L:=[18]) am _ (.head _)
  .exact absurd O h) MZ
def WX:ny HV:=Hw nt nJ amE (k' am) (λb h=>absurd O h) MZ
def amF:ny W9:=Hw nt nJ WX (k' am) (λb h=>absurd O h) λe b f h=>by
 unfold qF at h;split at h
 .rename_i d;injection h with h;subst h;simp only[Bool.or_eq_true]at d;have d:b=60∨b=61:=d.imp kU kU;refine agu nt nJ WX (k' (L:=[60,61]) am b ?_) e;rcases d with rfl|rfl
  .exact .head _
  .exact .tail _ (.head _)
 .cases h
def amG:ny N6:=rk nt nJ amF (k' am)
def amH:ny N7:=rk nt nJ amG (k' am)
section
variable {H:Type}
def RI:aa.cellsOf 27=4:=am
def RJ:aa.cellsOf 29=32:=am
def RK:aa.cellsOf 31=41:=am
def ad9:aa.cellsOf 32=1:=am
def aea:aa.cellsOf 33=1:=am
def aeb:aa.cellsOf 35=48:=am
def RM:aa.cellsOf 46=4:=am
def RN:aa.cellsOf 48=2:=am
def ast:uq aa 27 [(3,0),(25,1),(23,3)]=V:=am
def asu:uq aa 31 [(3,0),(3,1),(3,2),(3,3),(3,4),(3,5),(23,6),(23,7),(23,8),(29,9)]=V:=am
def asv:uq aa 35 [(27,0),(31,4),(23,45),(32,46),(33,47)]=V:=am
def asw:uq aa 46 [(3,0),(3,1),(3,2),(3,3)]=V:=am
def asx:uq aa 48 [(3,0),(3,1)]=V:=am
def Nl{l:List U}(h:F l=4):∃a b c d,l=[a,b,c,d]:=by
 match l,h with
 | [a,b,c,d],_=>exact⟨a,b,c,d,O⟩
def vi{l:List U}{n}(h:F l=n+1):∃a r,l=a::r/\F r=n:=by
 match l,h with
 |a::r,h=>exact⟨a,r,O,by simpa using h⟩
def TG{cs:List U}{d:DataW H}(h:Has aa 27 cs d):∃ep r s C rows ac b,cs=aF ep r s C/\RL r rows/\IL s ac/\IL C b:=by obtain⟨l,f⟩:=h.fields ast;rw[RI]at l;obtain⟨a,B,c,D,rfl⟩:=Nl l;obtain⟨_,o⟩:=f 0 3 0 O;obtain⟨_,p⟩:=f 1 25 1 O;obtain⟨_,q⟩:=f 2 23 3 O;rw[Ae]at o;rw[ad8]at p;rw[CP]at q;obtain⟨y,e⟩:=p.fields ass;obtain⟨_,m⟩:=e 0 22 0 O;obtain⟨_,n⟩:=e 1 23 1 O;rw[ad7]at m;rw[CP]at n;obtain⟨A,g,-⟩:=o.nL mD;obtain⟨r,rows,i,u⟩:=ahG m;obtain⟨s,ac,j,v⟩:=yh n;obtain⟨C,b,k,t⟩:=yh q;simp at g i j k;subst g;subst i;subst j;subst k;exact⟨A,_,_,_,rows,ac,b,O,u,v,t⟩
def Rs:∀xs:List U,(∀i,i<F xs->∃b:UInt8,(xs.drop i).take 1=[fA b])->∃l:List UInt8,xs=l.map fA
 | [],_=>⟨[],O⟩
 |x::xs,h=>by obtain⟨b,d⟩:=h 0 b7;obtain⟨l,rfl⟩:=Rs xs λi e=>h (i+1) (by simpa using e);simp at d;exact⟨b::l,by rw[d];rfl⟩
def ahH{cs:List U}{d:DataW H}(h:Has aa 29 cs d):∃l:List UInt8,cs=l.map fA/\F l=32:=by
 have e:=Kb;cases h with
 |bool b=>rw[e]at b;cases b
 |int b=>rw[e]at b;cases b
 |str b=>rw[e]at b;cases b
 |none b=>rw[e]at b;cases b
 |list b=>rw[e]at b;cases b
 |struct b=>rw[e]at b;cases b
 |array b s g f q k=>
  rw[e]at b;injection b with b;injection b with i h2;subst i;subst h2;rw[RJ]at f;obtain⟨l,m⟩:=Rs cs λn r=>by have o:=k n g[n] (aN M);rw[cc5,jC]at o;obtain⟨p,j⟩:=o.Pm am;exact⟨p,j⟩
  exact⟨l,m,by rw[m,br]at f;exact f⟩
def TF{cs:List U}{d:DataW H}(h:Has aa 31 cs d):∃D p r n,cs=ba D p r n/\jR D p r n:=by obtain⟨s,b⟩:=h.fields asu;rw[RK]at s;obtain⟨x0,c0,rfl,Y⟩:=vi s;obtain⟨x1,c1,rfl,Z⟩:=vi Y;obtain⟨x2,c2,rfl,k2⟩:=vi Z;obtain⟨x3,c3,rfl,k3⟩:=vi k2;obtain⟨x4,c4,rfl,k4⟩:=vi k3;obtain⟨x5,c5,rfl,k5⟩:=vi k4;obtain⟨x6,c6,rfl,k6⟩:=vi k5;obtain⟨x7,c7,rfl,k7⟩:=vi k6;obtain⟨x8,c8,rfl,k8⟩:=vi k7;obtain⟨_,t⟩:=b 0 3 0 O;obtain⟨_,u⟩:=b 1 3 1 O;obtain⟨_,v⟩:=b 2 3 2 O;obtain⟨_,y⟩:=b 3 3 3 O;obtain⟨_,A⟩:=b 4 3 4 O;obtain⟨_,B⟩:=b 5 3 5 O;obtain⟨_,C⟩:=b 6 23 6 O;obtain⟨_,E⟩:=b 7 23 7 O;obtain⟨_,L⟩:=b 8 23 8 O;obtain⟨_,N⟩:=b 9 29 9 O;rw[Ae]at t u v y A B;rw[CP]at C E L;rw[RJ]at N;obtain⟨n0,f,-⟩:=t.nL mD;obtain⟨n1,g,-⟩:=u.nL mD;obtain⟨n2,i,-⟩:=v.nL mD;obtain⟨n3,j,-⟩:=y.nL mD;obtain⟨n4,k,-⟩:=A.nL mD;obtain⟨n5,l,-⟩:=B.nL mD;obtain⟨p,pa,m,S⟩:=yh C;obtain⟨r,rv,o,T⟩:=yh E;obtain⟨n,nd,q,R⟩:=yh L;obtain⟨tx,e,X⟩:=ahH N;simp only[gw,su,dw,cX,List.cons.injEq,and_true]at f g i j k l m o q e;rw[fR (aaI k8)]at e;subst f;subst g;subst i;subst j;subst k;subst l;subst m;subst o;subst q;subst e;exact⟨⟨n0,n1,n2,n3,n4,n5,pa,rv,nd,tx⟩,_,_,_,O,S,T,R,X⟩
def ahF{es:List (List U)}(q:∀r∈es,F r=aa.cellsOf 46/\∃d:DataW H,Has aa 46 r d):∃l:List Pr,es=l.map aL:=Iq λr s=>by obtain⟨-,d,p⟩:=q r s;obtain⟨j,b⟩:=p.fields asw;rw[RM]at j;obtain⟨a,A,c,B,rfl⟩:=Nl j;obtain⟨_,k⟩:=b 0 3 0 O;obtain⟨_,m⟩:=b 1 3 1 O;obtain⟨_,n⟩:=b 2 3 2 O;obtain⟨_,o⟩:=b 3 3 3 O;rw[Ae]at k m n o;obtain⟨t,e,-⟩:=k.nL mD;obtain⟨u,f,-⟩:=m.nL mD;obtain⟨v,g,-⟩:=n.nL mD;obtain⟨y,i,-⟩:=o.nL mD;simp at e f g i;subst e;subst f;subst g;subst i;exact⟨⟨t,u,v,y⟩,O⟩
def ahI{r:List U}{d:DataW H}(k:Has aa 48 r d):∃q:Int × Int,r=bh q:=by obtain⟨g,f⟩:=k.fields asx;rw[RN]at g;obtain⟨a,n,rfl⟩:=VM g;obtain⟨_,i⟩:=f 0 3 0 O;obtain⟨_,j⟩:=f 1 3 1 O;rw[Ae]at i j;obtain⟨l,b,-⟩:=i.nL mD;obtain⟨m,e,-⟩:=j.nL mD;simp at b e;subst b;subst e;exact⟨(l,m),O⟩
def ahB{x:U}{d:DataW H}(h:jg aa 35 x d):∃c a,x=.agg (aq c a)/\cD c a/\rg a:=by
 obtain⟨b,rfl,hl,f⟩:=h.fields asv;rw[aeb]at hl;obtain⟨_,u⟩:=f 0 27 0 O;obtain⟨_,v⟩:=f 1 31 4 O;obtain⟨_,y⟩:=f 2 23 45 O;obtain⟨_,B⟩:=f 3 32 46 O;obtain⟨_,C⟩:=f 4 33 47 O;rw[RI,gw]at u;rw[RK]at v;rw[CP]at y;rw[ad9]at B;rw[aea]at C;obtain⟨X,z4,z5,z2,l,g,e,L,hx,E,Z⟩:=TG u;obtain⟨z3,z7,z0,z6,N,k⟩:=TF v;obtain⟨W,D,R,A⟩:=yh y;obtain⟨s,n,S,-,-,q,o⟩:=B.zo kZ;obtain⟨t,Y,T,-,-,r,p⟩:=C.zo mZ;obtain⟨z1,rfl⟩:=ahF o;obtain⟨z,rfl⟩:∃z:List (Int × Int),Y=z.map bh:=Iq λz0 hr=>by obtain⟨-,d,k⟩:=p z0 hr;exact ahI k
 refine⟨⟨l,g,X,e,z3,D,z1,z⟩,⟨z4,z5,z2,z7,z0,z6,W,.list s (aa.cellsOf 46) (bH z1),.list t (aa.cellsOf 48) (bN z)⟩,?_,⟨hx,E,Z,k,A,⟨s,_,O,λ_=>RM⟩,⟨t,_,O,λ_=>RN⟩⟩,⟨λz8 n h=>?_,λz8 n h=>?_⟩⟩
 .congr 1;unfold aq;rw[<-L,<-N];have m:b=b.take 4++((b.drop 4).take 41++((b.drop 45).take 1++((b.drop 46).take 1++(b.drop 47).take 1))):=by have f1:b.drop 47=(b.drop 47).take 1:=(fR (by rw[List.length_drop];omega)).symm;have f2:=(pG 1 (b.drop 46)).symm;have f3:=(pG 1 (b.drop 45)).symm;have f4:=(pG 41 (b.drop 4)).symm;have f5:=(pG 4 b).symm;rw[pF]at f2 f3 f4;rw[<-f1];exact f5.trans (congrArg _ (f4.trans (congrArg _ (f3.trans (congrArg _ f2)))))
  rw[R,S,T]at m;rw[iE];exact m
 .injection h with i h2 j;rw[<-j];exact q i
 .injection h with i h2 j;rw[<-j];exact r i
def ahC{x:U}{d:DataW H}(h:jg aa 31 x d):∃D p r n,x=.agg (ba D p r n)/\jR D p r n:=by obtain⟨e,rfl,b⟩:=h.BX Tryz.underlying31;obtain⟨D,p,r,n,rfl,ok⟩:=TF b;exact⟨D,p,r,n,O,ok⟩
def ahE{x:U}{d:DataW H}(h:jg aa 27 x d):∃ep e f C rows ac b,x=.agg (aF ep e f C)/\RL e rows/\IL f ac/\IL C b:=by obtain⟨j,rfl,g⟩:=h.BX Tryz.underlying27;obtain⟨ep,e,f,C,rows,ac,b,rfl,i⟩:=TG g;exact⟨ep,e,f,C,rows,ac,b,O,i⟩
def ahD{x:U}{d:DataW H}(h:jg aa 23 x d):∃l,IL x l/\True:=by
 obtain⟨k,b,rfl,j,-,-,f⟩:=h.zo cT;obtain⟨l,rfl⟩:∃l:List Int,b=l.map tT:=Iq λn i=>by obtain⟨-,d,e⟩:=f n i;obtain⟨m,g,-⟩:=e.nL mD;exact⟨m,g⟩
 exact⟨l,⟨k,_,O,λ_=>Ae⟩,aX⟩
def kOf(ep:Int)(rows:List (List Int))(ac b:List Int)(d:Dc)(who:List Int):Ce:=⟨rows,ac,ep,b,d,who,[],[]⟩
def aOf(b d C p r n W:U):CA:=⟨b,d,C,p,r,n,W,nl,nl⟩
def Vy:List aC:=[3,4,5,22,23,25,27,29,31,32,33,35,46,48]
end
end Go.Proofs.YtcbhpkjbiehcpaaGreatDoor
end
section
namespace Go.AE
open Go.RowKit Go.WideShapes Go.ChangeShapes
def Ej(P:bj)(e:List aC)(t:aC):Bool:=
 match P.underlying t with
 |some .bool|some (.int _)|some .string=>V
 |some (.slice b)=>e.contains b&&decide (0<P.cellsOf b)
 |some (.struct d)=>zw P 0 d.toList (P.cellsOf t)&&d.toList.all λf=>e.contains f.type
 |some (.array g b)=>gX (P.cellsOf t) (g*P.cellsOf b)&&e.contains b
 |_=>ai
def HI(P:bj)(b:List aC):Bool:=b.all (Ej P b)
section
variable {H:Type} {Z:aC × aG->H} {P:bj} {W:World}
def ati{z3:List aC}(hS:HI P z3=V):∀(fuel:Nat) (t:aC) (cs:List aG) (x:DataW H × List MemPlace),DataW.trod Z P W 0 (λ_=>V) V fuel t cs=J x->z3.contains t=V->
 ∃xs,aH (aW.init W) xs cs/\xs.all U.cW=V/\Has P t xs x.1:=by
 intro fuel
 induction fuel with
 |zero=>intro t cs x h;simp[DataW.trod]at h|succ fuel ih=>
  intro t cs x h js;have k:Ej P z3 t=V:=eF.1 hS t (by simp_all);unfold Ej at k;split at k
  .rename_i d;obtain⟨z5,rfl,rfl⟩:=DataW.trod_bool d h;exact⟨_,.cons _ _ _ _ (.v _ O) .nil,O,.bool d z5⟩
  .rename_i q d;obtain⟨z0,rfl,rfl,A⟩:=DataW.trod_int d h;exact⟨_,.cons _ _ _ _ (.v _ O) .nil,O,.int d z0 A⟩
  .rename_i d;obtain⟨z6,rfl,rfl,hs⟩:=DataW.trod_string d h;exact⟨_,.cons _ _ _ _ (.v _ O) .nil,O,.str d z6 hs⟩
  .rename_i l d;rw[bm,decide_eq_true_eq]at k;obtain⟨au0,AN⟩:=k;rcases DataW.trod_slice d h with⟨rfl,rfl⟩|⟨a,len,aR,j,v,z0,hm,rfl,rfl,-,Me,LI,GC,ah0,aiA,-⟩
   .exact⟨_,.cons _ _ _ _ (.nil _) .nil,O,.none d⟩
   .have hm:z0=fuel:=(by omega);subst hm;obtain⟨lH,ait⟩:=aiA O;have Y:∀e,e<len->∃r f B,W.cells? 0 (a.add (e*P.cellsOf l)) (P.cellsOf l)=J r/\j[e]?=J B/\aH (aW.init W) f r/\f.all U.cW=V/\Has P l f B.1:=by
     intro e hi;have g:=ah0 e hi;rw[aN (by omega:e<F j)]at g;cases hc:W.cells? 0 (a.add (e*P.cellsOf l)) (P.cellsOf l) with
     |none=>simp_all|some r=>
      grind
    by_cases ahS:aR=0
    .have s:len=0:=(by omega);subst ahS;subst s;have he:j=[]:=List.eq_nil_of_length_eq_zero GC;subst he;refine⟨[.list .tight (P.cellsOf l) []],.cons _ _ _ _ (.fP _ _) .nil,O,?_⟩;show Has P t _ (.slice [] (v.map (·.1)));exact .list d .tight [] [] (v.map (·.1)) (.inr ⟨O,O⟩) (bV _) O b7 b7
    .-- the block is there
     have R:a.spot=af:=by
      have:∃r,W.cells? 0 (a.add 0) (P.cellsOf l)=J r:=by
       rcases Nat.eq_zero_or_pos len with h0|h0
       .have g:=ait 0 M;rw[aN (by omega:0<F v)]at g;cases hc:W.cells? 0 (a.add ((len+0)*P.cellsOf l)) (P.cellsOf l) with|none=>simp_all|some r=>simp_all
       .grind
      obtain⟨r,gq⟩:=this;obtain⟨hl,hg⟩:=RQ gq;have h0:=hg 0 AN;rw[aN (by omega:0<F r)]at h0;have:(a.add 0).add 0=a:=(by simp[Addr.add]);rw[this]at h0;exact arL h0
     obtain⟨z4,b,sp⟩:=a;simp only at R;subst R;have N:∀q,q<=len->∃n:List (List U),F n=q/\(∀f∈n,F f=P.cellsOf l/\f.all U.cW=V)/\(∀(e:Nat) (f:List U) (z1:DataW H),n[e]?=J f->(j.map (·.1))[e]?=J z1->Has P l f z1)/\
      ∃cells:List aG,F cells=q*P.cellsOf l/\aH (aW.init W) n.flatten cells/\∀(u:Nat) (c:aG),cells[u]?=J c->W.cell? ⟨z4,b+u,af⟩=J c:=by
      intro q
      induction q with
      |zero=>intro _;exact⟨[],O,by simp,by simp,[],by simp,.nil,by simp⟩|succ q ihk=>
       intro hk;obtain⟨n,e1,e2,e3,cells,c1,c2,c3⟩:=ihk M;obtain⟨r,f,B,hc,E,o,g2,g3⟩:=Y q M;obtain⟨pj,hvg⟩:=RQ hc;refine⟨n++[f],by grind,λr' yD=>?_,λe r' z1 hi hd=>?_,cells++r,by grind,?_,λu c L=>?_⟩
       .rcases List.mem_append.1 yD with g|g
        .grind
        .simp only[hY]at g;subst g;exact⟨by rw[o.length,pj],g2⟩
       .grind
       .rw[oi];simpa using c2.append o
       .rcases dp u (F cells) with g|g
        .grind
        .rw[List.getElem?_append_right g]at L;have uT:u-F cells<P.cellsOf l:=(by have:=(aS.1 L).1;omega);have h2:=hvg _ uT;rw[L,Addr.gY,Addr.gY]at h2
         grind
     obtain⟨n,e1,e2,e3,cells,c1,c2,c3⟩:=N len (aV _);have C:n.flatten.all U.cW=V:=(by rw[List.all_flatten];simp only[eF];intro f S;have:=(e2 f S).2;simpa using this);refine⟨[.list .held (P.cellsOf l) n],.cons _ _ _ _ (.list .held (P.cellsOf l) n z4 b len aR cells e1.symm (λf S=>(e2 f S).1) c2 c3 ⟨Me,aX⟩ C) .nil,O,?_⟩;exact .list d .held n (j.map (·.1)) (v.map (·.1)) (.inl O) M (by simp_all) e3 (λf S=>(e2 f S).1)
  .rename_i fs d;rw[bm,eF]at k;obtain⟨aiE,C⟩:=k;obtain⟨y,z0,hm,rfl,p,DV,ru⟩:=DataW.trod_struct d h;have hm:z0=fuel:=(by omega);subst hm;have fld:∀(e:Nat) (i:Field),fs[e]?=J i->∃f B,y[e]?=J B/\aH (aW.init W) f ((cs.drop i.offset).take (P.cellsOf i.type))/\f.all U.cW=V/\Has P i.type f B.1:=by
    intro e i hf;have g:=ru e i hf;have dj:e<F y:=(by rw[DV];exact(Array.getElem?_eq_some_iff.1 hf).1);rw[aN dj]at g;obtain⟨f,o,g2,g3⟩:=ih i.type _ _ g (C i (by
     grind))
    exact⟨f,_,aN dj,o,g2,g3⟩
   have build:∀(X:List Field) (e b:Nat),(∀u i,X[u]?=J i->fs[e+u]?=J i)->zw P b X (P.cellsOf t)=V->b<=F cs->
    ∃xs,aH (aW.init W) xs (cs.drop b)/\xs.all U.cW=V/\∀u i,X[u]?=J i->b<=i.offset/\∃f B,y[e+u]?=J B/\(xs.drop (i.offset-b)).take (P.cellsOf i.type)=f/\Has P i.type f B.1:=by
    intro X
    induction X with
    |nil=>intro e b _ T _;have AJ:b=P.cellsOf t:=kU T;refine⟨[],?_,O,λu i L=>by grind⟩;rw[AJ,<-p,Fl];exact .nil|cons i X ihl=>
     intro e b hl T iq;rw[zw,bm]at T;have ho:i.offset=b:=kU T.1;obtain⟨f,B,E,o,g2,g3⟩:=fld e i (by simpa using hl 0 i O);have GN:b+P.cellsOf i.type<=F cs:=by
      rw[p];have:∀(X:List Field) (z2:Nat),zw P z2 X (P.cellsOf t)=V->z2<=P.cellsOf t:=by
       intro X
       induction X with
       |nil=>intro z2 h;exact aaI (kU h)|cons i X ih=>intro z2 h;rw[zw,bm]at h;grind
      exact this X _ T.2
     obtain⟨xs,m,x2,x3⟩:=ihl (e+1) (b+P.cellsOf i.type) (λu f' L=>by
      have:=hl (u+1) f' (by simp_all)
      grind) T.2 GN
     rw[ho]at o;have lH:F f=P.cellsOf i.type:=(by rw[o.length];simp;omega);refine⟨f++xs,?_,by simp_all,λu f' L=>?_⟩
     .have:=o.append m;rw[<-pF,pG]at this;omega
     .cases u with|zero=>simp_all|succ u=>obtain⟨pi,r',y',hy',yD,D⟩:=x3 u f' (by simp_all);refine⟨M,r',y',by grind,?_,D⟩;rw[show f'.offset-b=F f+(f'.offset-(b+P.cellsOf i.type)) by omega,<-pF,Ci];omega
   obtain⟨xs,m,x2,x3⟩:=build fs.toList 0 0 (λu i L=>by simp_all) aiE (bV _);rw[gw]at m;refine⟨xs,m,x2,.struct d xs (y.map (·.1)) (by rw[m.length,p]) (by grind) λe i z1 hf hd=>?_⟩;obtain⟨-,f,B,E,S,D⟩:=x3 e i (by simp_all)
   grind
  .rename_i z0 l d;rw[bm]at k;have gC:P.cellsOf t=z0*P.cellsOf l:=kU k.1;obtain⟨y,fu,Ub,rfl,p,DV,ru⟩:=DataW.trod_array d h;have Ub:fu=fuel:=(by omega);subst Ub;have N:∀q,q<=z0->∃xs,aH (aW.init W) xs (cs.take (q*P.cellsOf l))/\xs.all U.cW=V/\∀e,e<q->∃B,y[e]?=J B/\Has P l ((xs.drop (e*P.cellsOf l)).take (P.cellsOf l)) B.1:=by
    intro q
    induction q with
    |zero=>intro _;exact⟨[],by simp;exact .nil,O,λe hi=>absurd hi (mY e)⟩
    |succ q ihk=>
     intro hk;obtain⟨xs,m,x2,x3⟩:=ihk M;have g:=ru q M;rw[aN (by omega:q<F y)]at g;obtain⟨f,o,g2,g3⟩:=ih l _ _ g k.2;have s:(q+1)*P.cellsOf l<=F cs:=(by rw[p,gC];exact ma _ hk);have fa:F xs=q*P.cellsOf l:=(by rw[m.length,cR];rw[jh]at s;omega);have lH:F f=P.cellsOf l:=(by rw[o.length];simp;rw[jh]at s;omega);refine⟨xs++f,?_,by simp_all,λe hi=>?_⟩
     .have:=m.append o
      rwa [<-List.take_add,<-aaW]at this
     .rcases dp e q with h2|h2
      .obtain⟨B,E,D⟩:=x3 e h2;refine⟨B,E,?_⟩;have h3:(e+1)*P.cellsOf l<=q*P.cellsOf l:=ma _ h2
       grind
      grind
   obtain⟨xs,m,x2,x3⟩:=N z0 (aV _);rw[<-gC,<-p,fB]at m;refine⟨xs,m,x2,.array d xs (y.map (·.1)) (by rw[m.length,p]) (by grind) λe z1 hd=>?_⟩
   grind
  simp_all
def acb{r:List aC}(m:HI P r=V){t:aC}{v:aG}{d:DataW H}{p:List MemPlace}{j:Nat}(h:DataW.Trod Z P W 0 (λ_=>V) V t v d p)(b:Value.okWide P W .any j t v)(n:r.contains t=V):
 ∃x,aO (aW.init W) x v/\jg P t x d:=by
 obtain⟨l,y⟩:=h;obtain⟨q,g,h2,N⟩:=ati m l t _ _ y n;have f:∀c,v.cells.toList=[c]->v=c->(∀k,P.underlying t≠J (.struct k))->(∀E s,P.underlying t≠J (.array E s))->∃x,aO (aW.init W) x v/\jg P t x d:=by
  intro c u o D C;rw[u]at g;cases g with|cons x _ _ _ B A=>cases A;refine⟨x,o ▸ B,?_⟩;unfold jg;simp_all
 have i:Ej P r t=V:=eF.1 m t (by simp_all);unfold Ej at i;unfold Value.okWide at b;split at i
 .rename_i e;rw[e]at b;simp only[Cell.okWide,Cell.ok,e]at b;cases v<;>simp at b;exact f _ O O (by simp_all) (by simp_all)
 .rename_i R e;rw[e]at b;simp only[Cell.okWide,Cell.ok,e]at b;cases v<;>simp at b;exact f _ O O (by simp_all) (by simp_all)
 .rename_i e;rw[e]at b;simp only[Cell.okWide,Cell.ok,e]at b;cases v<;>simp at b;exact f _ O O (by simp_all) (by simp_all)
 .rename_i s e;rw[e]at b;simp only[Cell.okWide,Cell.ok,e]at b;cases v<;>simp at b;exact f _ O O (by simp_all) (by simp_all)
 .rename_i L e;rw[e]at b;obtain⟨k,rfl,-,-⟩:=b;exact⟨.agg q,.agg _ _ g,by unfold jg;simp_all⟩
 .rename_i E s e;rw[e]at b;obtain⟨k,rfl,-,-⟩:=b;exact⟨.agg q,.agg _ _ g,by unfold jg;simp_all⟩
 simp_all
def acd{r:List aC}(o:HI P r=V){e:Nat}:∀{ts:List aC} {vs:List aG} {b:List (DataW H)} {p:List MemPlace},DataW.TrodAll Z P W 0 (λ_=>V) V ts vs b p->
 (∀(j:Nat) t v,ts[j]?=J t->vs[j]?=J v->Value.okWide P W .any e t v)->(∀t∈ts,r.contains t=V)->∃xs,aH (aW.init W) xs vs/\ql P ts xs b:=by
 intro ts
 induction ts with
 |nil=>intro vs b p h _ _;obtain⟨rfl,rfl,rfl⟩:=trodAll_nil h;exact⟨[],.nil,aX⟩
 |cons t ts q=>intro vs b p h g d;obtain⟨v,y,C,s,A,B,rfl,rfl,rfl,n,h2⟩:=trodAll_cons h;obtain⟨x,i,k⟩:=acb o n (g 0 t v O O) (d t gx);obtain⟨xs,l,m⟩:=q h2 (λj t v f u=>g (j+1) t v (by simp_all) (by simp_all)) (λt f=>d t (gj _ f));exact⟨x::xs,.cons _ _ _ _ i l,k,m⟩
structure PZ(P:bj)(S:List aC)(f:aQ)(fn:Func)(tb:aC):Prop where
 func:P.funcs[f]?=J fn
 laid:laidOutB P=V
 set:HI P S=V
 Pl:∀t∈fn.params.toList,S.contains t=V/\P.readableRec t=V/\t<P.types.size
 res:fn.resultTypes=#[tb]
 bool:P.underlying tb=J .bool
variable {G:Nat->Option (List U)} {aI:aQ->Option (List U->Heap->Option (U × Heap))}
def ajX{z0:List aC}(hp:Prog P){f:aQ}{fn:Func}{tb:aC}(A:PZ P z0 f fn tb){s:ChangeSpec}{apart fresh k o:Bool}{C:Nat}{args:Array aG}{b S:List (DataW H)}{d:List MemPlace}
 (i:s.vars=[]) (u:∀b:List (DataW H),F b=fn.params.size->(s.fn H b).results=[.lit (.bool V)]/\(s.fn H b).args=b/\(s.fn H b).vars=[])
 (N:∀(j:Nat) t v,fn.params[j]?=J t->args[j]?=J v->Value.okWide P W .any C t v)
 (X:DataW.Whole Z P fn.params.toList s.vars apart W args.toList b S d)
 (hG:∀g cs,G g=J cs->∃cells,aH (aW.init W) cs cells/\∀(j:Nat) (c:aG),cells[j]?=J c->W.cell? ⟨g,j,af⟩=J c)
 (r:∀g p,aI g=J p->jV P G W g p)
 (D:∀xs:List U,ql P fn.params.toList xs b->∃h',(whole P G aI).call f xs Heap.init=J (.ret (.v (.bool V)),h')):
 Calls P f args W λe W'=>∃v,e=.returned v/\s.post Z P fn apart fresh k o W args v W':=by
 have B:=X;obtain⟨p,z1,hA,hV,m,wP,hnd⟩:=X;have T:DataW.TrodVars Z P W (λ_=>V) [] S z1:=i ▸ hV;obtain⟨rfl,rfl⟩:=trodVars_none T;rw[ga]at m;subst m;obtain⟨xs,hxs,l⟩:=acd A.set hA (λj t v y hv=>N j t v (by simp_all) (by simp_all)) (λt y=>(A.Pl t y).1);obtain⟨h',q⟩:=D xs l;have L:iX P G W (aW.init W) Heap.init W:=ars W hG;obtain⟨-,hc⟩:=(E9 hp r).call f xs Heap.init _ _ q;intro cs;obtain⟨K',w',fr,le,s',gP,hfr,v,R,hl⟩:=hc (aW.init W) W args hxs L cs;have hv:=R.gI.1;subst hv;have Y:Below W.heap.size W w':=by have:=s'.fD;rw[le.base]at this;exact this
 have E:F b=fn.params.size:=by
  have:∀{n:List aC} {xs:List U} {b:List (DataW H)},ql P n xs b->F b=F n:=by
   intro n
   induction n with
   |nil=>intro xs b h;cases xs<;>cases b<;>simp[ql]at h ⊢
   |cons t n ih=>intro xs b h;cases xs<;>cases b<;>simp[ql]at h ⊢;grind
  simpa using this l
 obtain⟨r1,r2,r3⟩:=u b E;refine⟨.returned (.bool V),w',fr,⟨_,O,?_⟩,gP,hfr,hl⟩;refine amI (pa:=d) (pv:=[]) B (λz2 sp hd=>?_) (λsp uY=>?_) (λsp _=>?_) b7 Y (ok_one A.res O (okWide_bool_mk A.bool _))
 .rw[A.res,ga,r1];exact trodAll_cons_mk (shut_bool A.bool _) trodAll_mk0
 .rw[ga,r2];exact ace A.laid hA (λt y=>(A.Pl t y).2) (λx R=>Y.same (B.lt x R)) uY
 .rw[i,ga,r3];exact rfl
end
end Go.AE
end
