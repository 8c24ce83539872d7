/-
  Part of the proof: SH.
-/
import Derived.Test.YtcbhpkjbiehcpaaGreatDoorSF
import Derived.Test.YtcbhpkjbiehcpaaGreatDoorSG
import Derived.Test.YtcbhpkjbiehcpaaGreatDoorSB
open Bool renaming true->aa,false->au,false_eq_true->jw,and_eq_true->bQ
open Option renaming some->J,getD_some->vR
open List renaming mem_cons->hh,filter_cons_of_pos->yL,filter_cons_of_neg->yK,mem_filter->rE,mem_cons_self->gt,filter_congr->acq,length->F,range->bT,length_cons->eZ,length_nil->gi,length_map->bJ,getElem?_eq_getElem->aY,mem_of_getElem?->dy,length_take->dJ,take_of_length_le->fK,getElem?_map->eF,getElem?_eq_some_iff->bk,length_filter_le->Bc,length_pos_iff->Bd,mem_singleton->iL,take_succ_cons->dY,take_zero->dG,cons_append->eY,nil_append->eP,not_mem_nil->qR,filter_eq_nil_iff->acr,length_append->de,all_append->qP,drop_zero->gP,getD_eq_getElem?_getD->fg,mem_append->yP,length_drop->fJ,getElem?_range->Bb,map_cons->dR,map_congr_left->yN,map_map->xn,take_append_drop->xq
open Prod renaming fst->jz,snd->nr
open And renaming intro->ar
open Go.Proofs.Tryz renaming underlying23->dp,prog->ag,underlying22->gZ,underlying72->Hu,underlying33->uC,f23->Eh,underlying57->Mh,func23->adp,f5->o_,func5->yU,underlying3->rG
open Nat renaming zero_le->cC,mul_le_mul->kL,zero_add->nT,le_refl->bh,reduceEqDiff->aT,le_trans->fB,le_of_ble_eq_true->lQ
set_option maxHeartbeats 64000000
set_option maxRecDepth 100000
set_option linter.unusedSimpArgs false
set_option linter.unusedVariables false
set_option linter.constructorNameAsVariable false
set_option linter.defProp false
section
namespace Go.NT
section
variable {α:Type} [DecidableEq α] {right:α->Bool} {k:α->Int}
def aiR{P:α->Bool}{p:α}{l:List α}:∀{d:Int},fH right k d l=aa->p∈l->pz k (k p) (l.filter P)=if P p then J p else none:=by
 induction l with
 |nil=>intro _ _ b;cases b
 |cons j l e=>
  intro d h b;rw[yp]at h;rcases hh.1 b with rfl|b
  .cases c:P p with
   |true=>rw[yL c,Vj af,aH O];rfl|false=>
    rw[yK (by rw[c];simp)];cases f:l.filter P with|nil=>rfl|cons y t=>have g:y∈l:=(rE.1 (by rw[f];exact gt)).1;have:=(yq h.2.2 y g).2;rw[Vj af,aV af];rfl
  .have i:=(yq h.2.2 p b).2;cases c:P j with|true=>rw[yL c,aiQ i];exact e h.2.2 b|false=>rw[yK (by rw[c];simp)];exact e h.2.2 b
def alB{P:α->Bool}{p:α}{l:List α}:∀{e:Int},fH right k e l=aa->p∈l->P p=au->nE k p (l.filter P)=l.filter λq=>P q||decide (q=p):=by
 induction l with
 |nil=>intro _ _ b;cases b
 |cons r l j=>
  intro e h b f;rw[yp]at h;rcases hh.1 b with rfl|b
  .rw[yK (by rw[f];simp),yL cE];have g:(l.filter λq=>P q||decide (q=p))=l.filter P:=(by refine acq λq n=>?_;have d:q≠p:=λg=>(by have:=(yq h.2.2 q n).2;rw[g]at this;omega);simp[d]);rw[g];cases m:l.filter P with|nil=>rfl|cons y t=>have o:y∈l:=(rE.1 (by rw[m];exact gt)).1;have:=(yq h.2.2 y o).2;rw[alz af]
  .have i:=(yq h.2.2 p b).2;have d:r≠p:=λg=>(by rw[g]at i;omega);cases c:P r with|true=>rw[yL c,yL (by simp[c]),alA i,j h.2.2 b f]|false=>rw[yK (by rw[c];simp),yK (by simp[c,d]),j h.2.2 b f]
def ZY{P:α->Bool}{p:α}{l:List α}{d:Int}(h:fH right k d l=aa)(e:p∈l):De k p (l.filter P)=(0,l.filter λq=>P q||decide (q=p)):=by
 have b:=aiR (P:=P) h e;unfold De;cases c:P p with
 |true=>
  rw[c,aH O]at b;rw[b];simp only[if_true];refine congrArg _ (acq λq g=>?_);by_cases f:q=p
  .rw[f,c];simp
  .simp[f]
 |false=>rw[c]at b;simp only[jw,if_false]at b;rw[b];simp only;rw[alB h e c]
def Zi{P:α->Bool}{l:List α}:∀{b:Int},fH right k b l=aa->fH right k b (l.filter P)=aa:=by
 induction l with
 |nil=>intro _ h;exact h|cons e l d=>
  intro b h;rw[yp]at h;cases c:P e with|true=>rw[yL c,yp];exact⟨h.1,h.2.1,d h.2.2⟩|false=>rw[yK (by rw[c];simp)];exact d (aoq h.2.2 af)
end
def aoM{c:Ce}{l}{P}{p}(g:c.eC=0)(e:c.aW=[])(b:fH (oS c.am) Pr.bN (-1) l=aa)(d:p∈l):
 mj {c with bO:=l.filter P} p=(0,l.filter λq=>P q||decide (q=p)):=by
 have f:gQ {c with bO:=l.filter P}=0:=EA.2 ⟨g,Zi b,by rw[e];rfl,λq=>absurd e q⟩;unfold mj;rw[aV (by rw[f];simp),aV (by have:=(yq b p d).1;rw[this];simp)];exact ZY b d
def aoT{c:Ce}{z}{P}{p}(i:c.eC=0)(g:fH (oS c.am) Pr.bN (-1) c.bO=aa)(e:F c.bO=F c.am)(b:fH (oT c.am) jz (-1) z=aa)(d:p∈z):
 mG {c with aW:=z.filter P} p=(0,z.filter λq=>P q||decide (q=p)):=by
 have f:gQ {c with aW:=z.filter P}=0:=EA.2 ⟨i,g,Zi b,λ_=>e⟩;unfold mG;rw[aV (by rw[f];simp),aV (by have:=(yq b p d).1;rw[this];simp),aV (by simp[e])];exact ZY b d
def filter_all{α:Type}{P}{l:List α}(h:∀x∈l,P x=aa):l.filter P=l:=List.filter_eq_self.2 h
end Go.NT
end
section
namespace Go.Proofs.YtcbhpkjbiehcpaaGreatDoor
open Go.AE Go.NT
def JZ:Tryz.f136.results.toList=[.tmp 4]:=by kernel_rfl
def aiJ:A6 W8 202:=aiI.up rfl
def apI(h:ah)(x y:V)(a b:List Int)(z:IL x a)(A:IL y b)(hl:F a<=1000000)(g:F a<=F b):
 ∃r h',W8.call 136 [x,y] h=J (r,h')/\h'=h/\r=.ret (im (lj a b)):=by
 obtain⟨k,s,rfl,m⟩:=z;obtain⟨B,q,rfl,e⟩:=A;have o:=aj.mk (ar m e);clear m e;have u23:=dp;have z3:=fa;have R:=db a;have u:=db b;unfold im;refine cA O Tryz.func136 O ?_;refine bD @JZ ?_;refine cJ (λZ j H=>∃c:Nat,c<=F a/\Z=F a-c/\j.get 0=.ac k s (aF a)/\j.get 1=.ac B q (aF b)/\j.get 5=.v (.int .i64 ((bT c).foldl (λx f=>cX x (cV (al a f) (al b f))) 0))/\j.get 6=(c:Nat)/\j.defers=[]/\H=h) ?_ (F a) _ _ ?_;rotate_left 1
 .refine⟨0,cC _,O,?_,?_,?_,?_,?_,O⟩<;>exact gR
 rintro Z j H ⟨c,hi,rfl,g0,g1,g5,g6,hd,rfl⟩;by_cases d:c<F a
 .have n:s=1:=o.M.1 (by intro D;rw[D]at d;simp at d);have e:q=1:=o.M.2 (by intro D;rw[D]at g;simp at g;rw[g]at d;simp at d);subst n;subst e;have l1:=eI (H:=H) (l:=a) (i:=c) (s:=1) d;have l2:=eI (H:=H) (l:=b) (i:=c) (s:=1) af;have cm:=aiJ (al a c) (al b c);have ca:=adR ((bT c).foldl (λx f=>cX x (cV (al a f) (al b f))) 0) (cV (al a c) (al b c));have i:cX ((bT c).foldl (λx f=>cX x (cV (al a f) (al b f))) 0) (cV (al a c) (al b c))=(bT (c+1)).foldl (λx f=>cX x (cV (al a f) (al b f))) 0:=by rw[List.range_succ,List.foldl_append];rfl
  have p:=aj.mk i;clear i;have v:(c:Int)<(F a:Int):=by omega
  have w:(c:Int)<(F b:Int):=by omega
  generalize (bT c).foldl (λx f=>cX x (cV (al a f) (al b f))) 0=G at *
  generalize al a c=ai at *
  generalize al b c=bi at *
  unfold im at *
  refine bD @JZ ?_;refine dW By bX ?_;refine bF @JZ @bj ?_;exact⟨F a-(c+1),by omega,c+1,by omega,O,by trivial,by trivial,by rw[p.M],by simp⟩
 .have:c=F a:=by omega
  subst this;refine bD @JZ ?_;exact⟨_,_,O,O,O⟩
def wN:Tryz.f65.results.toList=[.tmp 6,.tmp 7,.tmp 8]:=by kernel_rfl
def an0(n):∀h,W8.call 133 [im n] h=J (.ret (.v (.bool (cG n))),h):=b8 (L:=L8) O O O (b8 (L:=L7) O O O (anZ _ _) O O _) O rfl
def an1(x)(l)(g:IL x l)(f:F l<=9223372036854775807):∀h,W8.call 135 [x] h=J (.ret (.v (.bool (l.all cG))),h):=by obtain⟨b,c⟩:=g.hold;obtain⟨d,e⟩:=b.hold;exact b8 (L:=L8) (u:=[aA x]) O O (by simp[aM,c]) (b8 (L:=L7) (u:=[aA (aA x)]) O O (by simp[aM,e]) (an4 _ l d f _) O O _) O rfl
def ag8(x y)(U)(ae)(m:RL x U)(n:IL y ae):∀h,W8.call 134 [.agg [x,y]] h=J (.ret (im (cr U:Nat)),h):=by obtain⟨f,g,i,j⟩:=nM m n;obtain⟨b,c,d,e⟩:=nM f g;exact b8 (L:=L8) (u:=[.agg [aA x,aA y]]) O O (by simp[aM,aK,i,j]) (b8 (L:=L7) (u:=[.agg [aA (aA x),aA (aA y)]]) O O (by simp[aM,aK,d,e]) (UC _ _ U ae b c _) O O _) O rfl
def apx:A7 W8 137:=A7.up O (A7.up (R:=W6) (L:=L7) O λx b h=>apA x b h)
def aeg{H}(d:du H=aa){z}{A}{B}(n:IL z B)(u:F B<=1000):
 ∃o H',gC ag H #[23,23] (.ac .aP 1 [[im A]]) z=J (.ac o 1 (aF (A::B)),H')/\Ext H H'/\du H'=aa:=by
 obtain⟨k,s,rfl,m⟩:=n;obtain⟨j,g,b,p,i⟩:=Ar;by_cases e:B=[]
 .subst e;refine⟨.aP,H,?_,.refl _,d⟩;have:=Tj (P:=ag) (h:=H) (t0:=23) (t1:=23) (i:=j) (sz:=1) (k:=.aP) (es:=[[im A]]) (x:=.ac k s (aF [])) dp (.inl ⟨_,dp⟩) g af (by rw[b];exact i) (by simp[jT,rowsOf,aF]) (.inl b.symm);exact this
 .have f:=m e;subst f;have c:F (aF B)=F B:=db B;have r:=kL (af:1+F B<=1001) p;have:=yZ (P:=ag) (h:=H) (n0:=0) (k:=.aP) (t0:=23) (t1:=23) (i:=j) (sz:=1) (es:=[[im A]]) (new:=aF B) (x:=.ac k 1 (aF B)) dp (.inl ⟨_,dp⟩) g af (by rw[b];exact i) (by simp[jT,rowsOf,b]) (by intro v;exact e (List.map_eq_nil_iff.1 v)) (by rw[c];simp only[eZ,gi,nT];omega) (by rw[c];simp only[eZ,gi];omega) (.inl b.symm) (.inr (.inl O));rw[b]at this;have q:=Grown.one (n0:=H.tn) (h:=H) (k:=.aP) (.inr (.inl O)) d (bh _);exact⟨_,_,this,q.ext (.refl _) (bh _),q.ok⟩
def aqv(h:ah)(fR:du h=aa)(x y z:V)(U:List (List Int))(ae B:List Int)(A:Int)(hx:RL x U)(E:IL y ae)(hz:IL z B)(hl:F B<=1000)(ri:F U<=1000000):
 ∃r h',W8.call 65 [.agg [x,y],im A,z] h=J (r,h')/\
  ((jD U ae A B≠0/\r=.ret (.tuple [.ac .nil 0 [],.ac .nil 0 [],im (jD U ae A B)]))∨
  (jD U ae A B=0/\∃t1 t2,r=.ret (.tuple [.ac t1 2 (bY (fA U (A::B))),.ac t2 1 (aF (bU (A::B))),im 0]))):=by
 have bx:=ua hx E;have c1:=agE x y U ae hx E ri;have m:=an0 A;have u:=an1 z B hz af;have c4:=ag8 x y U ae hx E;have D:=aU h [x,y];have l0:=tN D;have l1:=oP D;have lz:=hz.dw;have bl:=p_ A;have vd:aj (cI U ae≠0->jD U ae A B=cI U ae):=⟨λg=>by unfold jD;rw[aH g]⟩;have oL:aj (cI U ae=0->jD U ae A B=if cG A&&B.all cG&&decide ((F B:Int)=(cr U:Nat)-1) then 0 else 1):=⟨λg=>by unfold jD;rw[aV (by simp[g])]⟩;have kok:=aj.mk (λg=>@pD U ae g);have kcp:=aj.mk (λg=>@pm U ae g);have xU:(cr U:Int)<=1000000∨cI U ae≠0:=by
  by_cases g:cI U ae=0
  .have:=(pm g).2;exact .inl af
  .exact .inr g
 obtain⟨k2,q,i,xH,oH⟩:=aeg (H:=h.push [x,y]) (A:=A) fR hz hl;have kH:=aj.mk (ar (Ext.trans (.push _ _) xH:Ext h q) oH);have l2:=oP (xH.box _ _ D);have kb0:=aj.mk (xH.box _ _ D);have kx:=aj.mk hx;clear hx E hz D xH oH;generalize jD U ae A B=res at *
 unfold im at *
 refine cA O Tryz.func65 O ?_;by_cases c:cI U ae=0;rotate_left 1
 .have e1:=vd.M c;have b:=aj.mk (ar c e1);clear e1 xU m u c4 i l2;generalize cI U ae=g at *
  refine bF @wN @bC ?_;exact⟨_,_,O,.inl ⟨by rw[b.M.2];exact b.M.1,by rw[b.M.2]⟩⟩
 rw[c]at c1;have o:=oL.M c;have hcp:=kcp.M c;have hw:IntKind.i64.wrap ((cr U:Nat)-1:Int)=(cr U:Nat)-1:=jq af af;clear vd oL kcp xU;have bad:∀(g:(cG A&&B.all cG&&decide ((F B:Int)=(cr U:Nat)-1))=au),res=1:=λg=>by rw[o,aV (by simp[g])]
 have R:∀(g:(cG A&&B.all cG&&decide ((F B:Int)=(cr U:Nat)-1))=aa),res=0:=λg=>by rw[o,aH g]
 have kb:=aj.mk bad;have kg:=aj.mk R;clear bad R o;cases d:cG A with
 |false=>rw[d]at m;have b:aj (res=1):=⟨kb.M (by rw[d];rfl)⟩;clear d c u c4 i l2;refine bF @wN @bC ?_;exact⟨_,_,O,.inl ⟨by rw[b.M];decide,by rw[b.M]⟩⟩
 |true=>
 rw[d]at m;by_cases h3:(F B:Int)=(cr U:Nat)-1;rotate_left 1
 .have d3:decide ((F B:Int)=((cr U:Nat):Int)-1)=au:=cR h3;have b:aj (res=1):=⟨kb.M (by rw[d,d3];simp)⟩;clear d h3 c u i l2;refine bF @wN @bC ?_;exact⟨_,_,O,.inl ⟨by rw[b.M];decide,by rw[b.M]⟩⟩
 have d3:decide ((F B:Int)=((cr U:Nat):Int)-1)=aa:=cD h3;cases w:B.all cG with
 |false=>rw[w]at u;have b:aj (res=1):=⟨kb.M (by rw[d,w];rfl)⟩;clear d w c i l2;refine bF @wN @bC ?_;exact⟨_,_,O,.inl ⟨by rw[b.M];decide,by rw[b.M]⟩⟩
 |true=>
 rw[w]at u;have b:aj (res=0):=⟨kg.M (by rw[d,w,d3];rfl)⟩;have nX:F (A::B)=cr U:=by simp;omega
 obtain⟨w1,w2,w3,w4⟩:=kok.M c;have kw:=aj.mk w3;have ks:=aj.mk nX;obtain⟨k,s,xs,rfl,hs,fF,jS⟩:=kx.M;have kk:=aj.mk (ar hs jS);have u23:=dp;have u22:=gZ;have u36:=Hu;have z23:=iA;have z3:=fa;have e_:F (xs.map λa=>[a])=F U:=by rw[bJ];exact fF
 have u':=db (A::B);have b72:fC ag 72 0 []=J (.ac .aP 2 []):=by kernel_rfl
 have b23:fC ag 23 0 []=J (.ac .aP 1 []):=by kernel_rfl
 clear hs jS w1 w3 w4 d w h3 c nX kok kb kg kx;generalize hS:A::B=S at *
 refine bF @wN @bC ?_;have kB:aj (Gr q q .aP):=⟨⟨.refl _,kH.M.2,.inr (.inl O)⟩⟩;have xR:q.I[F h.I]?=J [.ac k s (xs.map λa=>[a]),y]:=kb0.M;refine cJ (λz0 v H=>∃(e:Nat) (t:Tok),e<=F U/\z0=F U-e/\aj (Gr q H t)/\v.get 3=.ptr (.box (F h.I)) 0/\v.get 10=.ac k2 1 (aF S)/\v.get 11=.ac t 2 (bY ((fA U S).take e))/\v.get 12=(e:Nat)/\v.defers=[]) ?_ (F U) _ _ ?_;rotate_left 1
 .refine⟨0,.aP,cC _,O,kB,?_,?_,?_,?_,?_⟩<;>simp only[gW,reduceIte,aT,aN,bC,b72]<;>rfl
 clear c1 m u c4 l0 l1 l2 bl hw d3 lz i bx xR;rintro z0 v H ⟨e,t,hi,rfl,j,g3,g10,G,g12,hd⟩;have hb:H.I[F h.I]?=J [.ac k s (xs.map λa=>[a]),y]:=j.M.1.box _ _ kb0.M;have l0:=oP hb;clear hb;by_cases dD:e<F U
 .have eM:s=1:=kk.M.1 (by intro g;rw[g]at dD;simp at dD);subst eM;obtain⟨a,Z⟩:∃a,xs[e]?=J a:=⟨_,aY af⟩;obtain⟨r,p⟩:∃r,U[e]?=J r:=⟨_,aY dD⟩;have ld:=jc (H:=H) (s:=1) Z;have Fx:=kk.M.2 e a r Z p;have Oy:=kw.M r (dy p);obtain⟨_,_,c6,rfl,rfl⟩:=apI H a (.ac k2 1 (aF S)) r S Fx ⟨_,_,O,λ_=>rfl⟩ af (by have:=ks.M;omega);have gG:(e:Int)<(F U:Int):=by omega
  have ap:=HB (T:=72) (es:=bY ((fA U S).take e)) (r:=bI (((e:Nat):Int),lj r S)) u36 OV bm (by unfold bY;rw[bJ,dJ];omega) (.inl O) j.M.2.2;have kG2:=aj.mk j.M.app;have e9:bY ((fA U S).take e)++[bI (((e:Nat):Int),lj r S)]=bY ((fA U S).take (e+1)):=by rw[ga (MV p)];unfold bY;simp
  rw[e9]at ap;have b36:=TE ((e:Nat):Int) (lj r S);have b81:=Tu ((e:Nat):Int) (lj r S);clear Z p Fx Oy e9;generalize lj r S=dv at *
  unfold im bI at *
  refine dA @wN @dN @bj ?_;exact⟨F U-(e+1),by omega,e+1,_,by omega,O,kG2,by simp⟩
 have gq:e=F U:=by omega
 subst gq;rw[fK (by rw[EF];exact bh _)]at G;have hSl:F S<=1001:=by rw[<-hS];simp;omega
 clear hS b72;have fw:F (bU S)=F S:=by unfold bU;simp
 refine bF @wN @dN ?_;refine cJ (λz0 v H3=>∃(f:Nat) (t2:Tok),f<=F S/\z0=F S-f/\aj (Gr q H3 t2)/\v.get 10=.ac k2 1 (aF S)/\v.get 11=.ac t 2 (bY (fA U S))/\v.get 13=.ac t2 1 (aF ((bU S).take f))/\v.get 14=(f:Nat)/\v.defers=[]) ?_ (F S) _ _ ?_;rotate_left 1
 .refine⟨0,.aP,cC _,O,⟨⟨j.M.1,j.M.2.1,.inr (.inl O)⟩⟩,?_,?_,?_,?_,?_⟩<;>simp only[gW,reduceIte,aT,aN,b23]<;>first|assumption|rfl
 clear g3 g10 G g12 hd l0 b23;rintro z0 v H3 ⟨f,t2,hj,rfl,j,g10,G,g13,g14,hd⟩;by_cases n:f<F S
 .have ld:=eI (H:=H3) (l:=S) (i:=f) (s:=1) n;have m:=apx 4 (al S f);rw[tD tv]at m;have hG:(4:Int).toNat=Gn:=rfl;rw[hG]at m;have gG:(f:Int)<(F S:Int):=by omega
  have p:(bU S)[f]?=J ((cN Gn (al S f):Nat):Int):=by unfold bU;rw[eF,aY n,fL n];rfl
  have ap:=vY (x:=((cN Gn (al S f):Nat):Int)) (es:=(bU S).take f) (by rw[dJ];omega) (.inl O) j.M.2.2;have kG2:=aj.mk j.M.app;rw[<-ga p]at ap;have bl:=p_ ((cN Gn (al S f):Nat):Int);clear p hG;generalize ((cN Gn (al S f):Nat):Int)=pv at *
  generalize al S f=sj at *
  unfold im at *
  refine dA @wN @dN @bj ?_;exact⟨F S-(f+1),by omega,f+1,_,by omega,O,kG2,by simp⟩
 .have oJ:f=F S:=by omega
  subst oJ;rw[fK af]at g13;refine bD @wN ?_;exact⟨_,_,O,.inr ⟨b.M,_,_,O⟩⟩
def Ql:Tryz.f64.results.toList=[.tmp 2]:=by kernel_rfl
def air(h:ah)(x y:V)(U:List (List Int))(ae:List Int)(w:RL x U)(A:IL y ae):
 ∃r h',W8.call 64 [.agg [x,y]] h=J (r,h')/\∃b,r=.ret ((b:Bool):V)/\(b=aa->F U<=80/\F ae<=100):=by
 have Z:=ua w A;have l0:=oP (aU h [x,y]);have l1:=yk (aU h [x,y]);obtain⟨k,s,m,rfl,o,z,g⟩:=w;obtain⟨ky,sy,rfl,u⟩:=A;have D:=aj.mk (ar o g);clear o g u;have u23:=dp;have u22:=gZ;have z23:=iA;have e_:F (m.map λa=>[a])=F U:=by rw[bJ];exact z
 have ayr:=db ae;obtain⟨i,f⟩:∃i,h.push [.ac k s (m.map λa=>[a]),.ac ky sy (aF ae)]=i:=⟨_,O⟩;rw[f]at l0 l1;refine cA O Tryz.func64 O ?_;refine dA @Ql @bC @f ?_;refine cJ (λz0 R H=>∃c:Nat,c<=F U/\z0=F U-c/\R.get 1=.ptr (.box (F h.I)) 0/\R.get 3=(c:Nat)/\R.defers=[]/\H=i) ?_ (F U) _ _ ?_;rotate_left 1
 .refine⟨0,cC _,O,?_,?_,?_,O⟩<;>simp only[gW,reduceIte,aT,aN,bC,f]<;>rfl
 clear Z f;rintro z0 R H ⟨c,hi,rfl,g1,g3,hd,rfl⟩;have B:(c<F U/\(c:Int)<80)∨(F U<=c/\¬(c:Int)<(F U:Int))∨((c:Int)<(F U:Int)/\¬(c:Int)<80):=by omega
 rcases B with⟨e,n⟩|⟨pN,z'⟩|⟨j,n⟩
 .have p:s=1:=D.M.1 (by intro G;rw[G]at e;simp at e);subst p;obtain⟨a,d⟩:∃a,m[c]?=J a:=⟨_,aY af⟩;obtain⟨r,v⟩:∃r,U[c]?=J r:=⟨_,aY e⟩;have ld:=jc (H:=H) (s:=1) d;obtain⟨ka,sa,rfl,q⟩:=D.M.2 c a r d v;have Cr:=db r;have j:(c:Int)<(F U:Int):=by omega
  clear d v q
  repeat' (first|simp(maxSteps:=9999999) (disch:=first|exact dZ|fail) only[gW,reduceIte,aT,aN,Ql,dN,bj, *]|refine dX ?_ ?_<;>(intro _;try omega))
  all_goals first|exact⟨_,_,O,_,O,λG=>by cases G⟩|exact⟨F U-(c+1),by omega,c+1,by omega,O,by simp⟩
 all_goals
  repeat' (first|simp(maxSteps:=9999999) (disch:=first|exact dZ|fail) only[gW,reduceIte,aT,aN,Ql,dN,fE, *]|refine dX ?_ ?_<;>(intro _;try omega))
  all_goals exact⟨_,_,O,_,O,λG=>by simp at G<;>omega⟩
def aza:Tryz.f24.results.toList=[.cell 8 35,.tmp 9]:=by kernel_rfl
def Old(h K:ah):Prop:=∀(c:Nat) (b:List V),h.I[c]?=J b->K.I[c]?=J b
def Old.refl(h):Old h h:=λ_ _ b=>b
def Old.push{h K}(o:Old h K)(cs):Old h (K.push cs):=λ_ _ b=>aX (o _ _ b)
def Old.put{h K}(o:Old h K){b}(e:F h.I<=b)(cs):Old h (K.put b cs):=λf d c=>by have:=(bk.1 c).1;rw[cS af];exact o _ _ c
abbrev cP(c:Ce)(l:List Pr):Ce:={c with bO:=l}
structure Way(c:Ce)(l:List Pr)(P:Pr->Bool)(a:CA):Prop where
 ok:c_ {c with bO:=l.filter P} a
 held:dS a
 nil:j8 a
def Way.step{c}{l}{P}{a}(w:Way c l P a)(b:c.Fit)(e:F l<=8)(m:c.eC=0)(o:c.aW=[])(j:fH (oS c.am) Pr.bN (-1) l=aa){p}(n:p∈l):
 ∃d,Way c l (λq=>P q||decide (q=p)) d/\∀h,SH.call 16 [.agg (aD {c with bO:=l.filter P} a),.agg (bB p)] h=J (.ret (.tuple [.agg (aD {c with bO:=l.filter λq=>P q||decide (q=p)} d),im 0]),h):=by
 have v:F (l.filter P)<=8:=fB (Bc _ _) e;have f2:Ce.Fit {c with bO:=l.filter P}:=⟨b.1,b.2.1,b.2.2.1,b.2.2.2.1,by show(F (l.filter P))<=_;omega,b.2.2.2.2.2⟩;have r:=aoM (P:=P) m o j n;obtain⟨d,u,i,f,q⟩:=EU w.ok w.held w.nil f2 (by show(F (l.filter P))<_;omega) p;rw[r]at q;have g:lE {c with bO:=l.filter P} p={c with bO:=l.filter λq=>P q||decide (q=p)}:=by unfold lE;rw[r];rfl
 rw[g]at u q;exact⟨d,⟨u,i,f⟩,pY q O q.held⟩
def ZS30{p:Prop}(h:p:=by
 have bx:=w0.ok.cells;have z35:=vH;have lL:=hL;have lO:=hO.dw;obtain⟨k2,s2,rfl,qx⟩:=hO;have kI:=aj.mk (ar hs hI);have kO:=aj.mk qx;clear qx;have u60:=Tryz.underlying60;have hlp:0<F l:=Bd.2 gb;obtain⟨H,w⟩:∃H,(h.push (aD (Q200 c (l.filter λ_=>au)) a)).push (aD c0 a0)=H:=⟨_,O⟩;have q0:H.I[F h.I]?=J (aD (Q200 c (l.filter λ_=>au)) a):=by rw[<-w];exact aX (aU _ _)
 have n1:=bV h (aD (Q200 c (l.filter λ_=>au)) a);have g:H.I[F h.I+1]?=J (aD c0 a0):=by rw[<-w,<-n1];exact aU _ _
 have kw0:=aj.mk w0;have oH:Old h H:=by rw[<-w];exact((Old.refl h).push _).push _
 have kq:=aj.mk (ar q0 (ar g oH));have Xo:IntKind.i64.wrap ((F d:Int)+(F l:Int))=((F d+F l:Nat):Int):=by rw[jq af af];omega
 clear q0 g oH w0 hs hI;generalize VG:aD (Q200 c (l.filter λ_=>au)) a=z9 at *
 have kE:=aj.mk VG;clear VG;refine cA O Q201 O ?_;refine dA @Q202 @bC @w ?_;refine cJ (λz7 z0 K=>∃(f:Nat) (P:Q203->Bool) (e:CA),f<=F d+F l/\z7=F d+F l-f/\aj (Q204 c l P e)/\aj (∀j,j+F d<f->∀x,l[j]?=J x->P x=aa)/\aj (K.I[F h.I]?=J (aD (Q200 c (l.filter P)) e)/\K.I[F h.I+1]?=J (aD c0 a0)/\Old h K)/\
  z0.get 1=L/\z0.get 2=.ac k2 s2 (bW d)/\z0.get 3=.func (.func Q205) [] []/\z0.get 4=.ptr (.box (F h.I)) 0/\z0.get 8=.ptr (.box (F h.I+1)) 0/\z0.get 18=(F d+F l:Nat)/\z0.get 19=(f:Nat)/\z0.defers=[]) ?_ (F d+F l) _ _ ?_
 rotate_left 1
 .refine⟨0,λ_=>au,a,cC _,O,kw0,⟨λj q=>absurd q af⟩,?_,?_,?_,?_,?_,?_,?_,?_,?_⟩
  .exact⟨by rw[kE.M];exact kq.M.1,kq.M.2⟩
  all_goals first|(simp only[gW,reduceIte,aT,aN,bC,w,n1];done)|(simp only[gW,reduceIte,aT,aN,bC,w,n1]<;>rfl)
 clear bx lO Xo w n1;rintro z7 z0 K ⟨f,P,e,hi,rfl,R,kP,m,g1,g2,g3,g4,g8,g18,g19,hd⟩;have lO:dw ag 60 (.ac k2 s2 (bW d))=J ((F d:Nat):V):=BL.dw ⟨k2,s2,O,kO.M⟩;by_cases dD:f<F d+F l;rotate_left 1
 .have gq:f=F d+F l:=by omega
  subst gq;have z:l.filter P=l:=filter_all λx B=>by obtain⟨j,hj,rfl⟩:=List.mem_iff_getElem.1 B;exact kP.M j af _ (aY hj)
  have z3:=R.M;have b4:=m.M.1;have o:=m.M.2.1;rw[z]at b4;have E:c_ (Q200 c l) e:=by have:=z3.ok;rwa [z]at this
  have oK:Old h (K.put (F h.I+1) (aD (Q200 c l) e)):=m.M.2.2.put af _;have D:=aj.mk (ar E (ar z3.nil (ar z3.held oK)));have tP:=E.len;have m0:=iJ tP b4;have v0:=qK gL.len tP E.cells o;have m1:=iJ tP (dM (h:=K) (b:=F h.I+1) (cs:=aD (Q200 c l) e) (bk.1 o).1);clear z3 oK E b4 o z R kP m dD hi;generalize hD:aD (Q200 c l) e=z9 at *
  have kD:=aj.mk hD;clear hD;refine bD @Q202 ?_;exact⟨_,_,O,D.M.2.2.2,_,D.M.1,D.M.2.1,D.M.2.2.1,by rw[kD.M]⟩
 have gG:(f:Int)<((F d+F l:Nat):Int):=by omega
 have e1:IntKind.i64.wrap ((f:Int)-(F d:Int))=(f:Int)-(F d:Int):=jq af af;obtain⟨j,hj,WG⟩:∃j,j<F l/\(f<F d/\j=(e7 d f).toNat%F l∨F d<=f/\j=f-F d):=by
  by_cases q:f<F d
  .exact⟨_,Nat.mod_lt _ hlp,.inl ⟨q,O⟩⟩
  .exact⟨f-F d,by omega,.inr ⟨af,O⟩⟩
 obtain⟨p,hp⟩:∃p,l[j]?=J p:=⟨_,aY hj⟩;obtain⟨A,ix,lp,lp2⟩:=kI.M.2 K j p m.M.2.2 hp;obtain⟨i,w2,c16⟩:=kI.M.1 P e p R.M (dy hp);have kw2:=aj.mk w2;have kP2:aj (∀G,G+F d<f+1->∀x,l[G]?=J x->(P x||decide (x=p))=aa):=⟨λG q x B=>by
  by_cases z0:G+F d<f
  .rw[kP.M G z0 x B];rfl
  .have:G=j:=by rcases WG with⟨g,-⟩|⟨g,q2⟩<;>omega
   rw[this,hp]at B;injection B with B;simp[B]⟩
 have b4:=m.M.1;have o:=m.M.2.1;have n:=R.M.ok.len;have tP:=w2.ok.len;have u:=w2.ok.cells;have m0:=iJ n b4;have m0b:=iJ n (aX (cs:=aD c0 a0) b4);have Ca:=(bk.1 b4).1;have hb8:=(bk.1 o).1;have v0:=sJ (H:=K) tP u;have y1:=iJ tP (aU K (aD (Q200 c (l.filter λq=>P q||decide (q=p))) i));have Z:(K.push (aD (Q200 c (l.filter λq=>P q||decide (q=p))) i)).I[F h.I]?=J (aD (Q200 c (l.filter P)) e):=aX b4;have v1:=qK n tP u Z;have z1:((K.push (aD (Q200 c (l.filter λq=>P q||decide (q=p))) i)).put (F h.I) (aD (Q200 c (l.filter λq=>P q||decide (q=p))) i)).I[F h.I]?=J (aD (Q200 c (l.filter λq=>P q||decide (q=p))) i):=dM (bk.1 Z).1;have z2:((K.push (aD (Q200 c (l.filter λq=>P q||decide (q=p))) i)).put (F h.I) (aD (Q200 c (l.filter λq=>P q||decide (q=p))) i)).I[F h.I+1]?=J (aD c0 a0):=by rw[cS af];exact aX o
 have oz:Old h ((K.push (aD (Q200 c (l.filter λq=>P q||decide (q=p))) i)).put (F h.I) (aD (Q200 c (l.filter λq=>P q||decide (q=p))) i)):=(m.M.2.2.push _).put (bh _) _;have kz:=aj.mk (ar z1 (ar z2 oz));have sD:dh (.agg (aD (Q200 c (l.filter P)) e)) (.agg (aD (Q200 c (l.filter P)) e))=aa:=Gv R.M.ok;have sp:dh (.agg (Q206 p)) (.agg (Q206 p))=aa:=by simp[dh,gI,iz,Q206]
 clear w2 b4 Z o n tP u z1 z2 oz R m kP hp kw0 kE kq kI;generalize VH:aD (Q200 c (l.filter λq=>P q||decide (q=p))) i=D2 at *
 have kD2:=aj.mk VH;clear VH;generalize aD (Q200 c (l.filter P)) e=D1 at *
 generalize aD c0 a0=Z0 at *
 generalize Q206 p=z6 at *
 rcases WG with⟨g,rfl⟩|⟨g,rfl⟩
 .have ayo:=UInt8.toNat_lt (e7 d f);have kq1:=aj.mk g;have akN:s2=1:=kO.M (by intro q;rw[q]at g;simp at g);subst akN;have lb:=amu (h:=K) g;have akA:(f:Int)-(F d:Int)<0:=by omega
  have hiO:(f:Int)<(F d:Int):=by omega
  have XB:=abF d;have z5:=sL;unfold dC at lb;have ew:IntKind.i64.wrap ((e7 d f).toNat:Int)=((e7 d f).toNat:Int):=jq af af;have er:Int.tmod ((e7 d f).toNat:Int) (F l:Int)=(((e7 d f).toNat%F l:Nat):Int):=rfl;have IQ:¬((F l:Int)=0):=by omega
  have cv:=λ(z8:ah)=>UJ ((e7 d f).toNat:Int) z8;rw[ew]at cv;have Fj:(((e7 d f).toNat%F l:Nat):Int)<(F l:Int):=by omega
  have WH:¬((((e7 d f).toNat%F l:Nat):Int)<0):=by omega
  clear ew;generalize (e7 d f).toNat%F l=j at *
  generalize ((e7 d f).toNat:Int)=bv at *
  clear g;unfold im at *
  refine bF @Q202 @bj ?_;refine Dw [6] [(1,10),(5,10)] bX ?_ ?_ ?_
  .intro k hk;simp only[iL]at hk;subst hk;refine xC (x:=.tuple [.agg D2,.v (.int .i64 0)]) O O ?_ ?_
   .simp only[dY,dG];refine cg @Q202 @bj @eY.{0} @eP.{0} ?_;exact⟨trivial,λ_=>trivial⟩
   .exact iH @Q202 @bj @eY.{0} @eP.{0}
  .intro za hz;simp only[hh,qR,or_false]at hz;rcases hz with rfl|rfl
   .refine jL (x:=.ptr (.box (F h.I)) 0) (v:=.agg D1) bX O O O bX (sD) ?_ ?_<;>(simp only[dY,dG];exact iH @Q202 @bj @eY.{0} (ar @eP.{0} @and_self))
   .refine jL (x:=A) (v:=.agg z6) bX O O O bX (sp) ?_ ?_<;>(simp only[dY,dG];exact iH @Q202 @bj @eY.{0} (ar @eP.{0} @and_self))
  refine cg @Q202 @bj @eY.{0} @eP.{0} ?_;refine⟨F d+F l-(f+1),by omega,f+1,λq=>P q||decide (q=p),i,by omega,O,kw2,kP2,⟨⟨by rw[kD2.M];exact kz.M.1,kz.M.2⟩⟩,by trivial,by trivial,by trivial,by trivial,by trivial,by trivial,by simp,by trivial⟩
 .have e2:((f:Int)-(F d:Int))=((f-F d:Nat):Int):=by omega
  have e3:=e1.trans e2;clear e1;have WQ:¬(((f-F d:Nat):Int)<0):=by omega
  have Fj:((f-F d:Nat):Int)<(F l:Int):=by omega
  generalize f-F d=j at *
  have kq1:=aj.mk g;clear g e2;unfold im at *
  refine bF @Q202 @bj ?_;refine Dw [6] [(1,10),(5,10)] bX ?_ ?_ ?_
  .intro k hk;simp only[iL]at hk;subst hk;refine xC (x:=.tuple [.agg D2,.v (.int .i64 0)]) O O ?_ ?_
   .simp only[dY,dG];refine cg @Q202 @bj @eY.{0} @eP.{0} ?_;exact⟨trivial,λ_=>trivial⟩
   .exact iH @Q202 @bj @eY.{0} @eP.{0}
  .intro za hz;simp only[hh,qR,or_false]at hz;rcases hz with rfl|rfl
   .refine jL (x:=.ptr (.box (F h.I)) 0) (v:=.agg D1) bX O O O bX (sD) ?_ ?_<;>(simp only[dY,dG];exact iH @Q202 @bj @eY.{0} (ar @eP.{0} @and_self))
   .refine jL (x:=A) (v:=.agg z6) bX O O O bX (sp) ?_ ?_<;>(simp only[dY,dG];exact iH @Q202 @bj @eY.{0} (ar @eP.{0} @and_self))
  refine cg @Q202 @bj @eY.{0} @eP.{0} ?_;refine⟨F d+F l-(f+1),by omega,f+1,λq=>P q||decide (q=p),i,by omega,O,kw2,kP2,⟨⟨by rw[kD2.M];exact kz.M.1,kz.M.2⟩⟩,by trivial,by trivial,by trivial,by trivial,by trivial,by trivial,by simp,by trivial⟩):p:=h
section
open Go.Proofs.YtcbhpkjbiehcpaaGreatDoor renaming cP->Q200,aza->Q202,Way->Q204,bB->Q206
open Go.Proofs.Tryz renaming func24->Q201
open Go.NT renaming Pr->Q203
open Go renaming kk16->Q205
def send24m(h:ah)(c:Ce)(a:CA)(l:List Pr)(L:V)(hL:dw ag 32 L=J ((F l:Nat):V))(hI:∀(K:ah) (j:Nat) (p:Pr),Old h K->l[j]?=J p->∃A,dU ag 32 L ((j:Nat):V)=J A/\aL ag Gt K 46 A=J (.agg (bB p))/\∀cs,aL ag Gt (K.push cs) 46 A=J (.agg (bB p)))
 (d:List UInt8) (z4:V) (hO:BL z4 d) (Cl:F d<=30) (gU:F l<=8) (gb:l≠[]) (w0:Way c l (λ_=>au) a)
 (hs:∀(P:Pr->Bool) (a:CA) (p:Pr),Way c l P a->p∈l->∃e,Way c l (λq=>P q||decide (q=p)) e/\∀h,SH.call 16 [.agg (aD (cP c (l.filter P)) a),.agg (bB p)] h=J (.ret (.tuple [.agg (aD (cP c (l.filter λq=>P q||decide (q=p))) e),im 0]),h)):
 ∃r h',SH.call 24 [.agg (aD (cP c (l.filter λ_=>au)) a),L,z4,.func (.func 16) [] []] h=J (r,h')/\Old h h'/\∃e,c_ (cP c l) e/\j8 e/\dS e/\r=.ret (.tuple [.agg (aD (cP c l) e),(aa:V)]):=ZS30
end
def aaL(h)(c)(a)(E:c_ c a)(v:dS a)(i:j8 a)(q:c.Fit)(z:c.eC=0)(o:c.bO=[])(A:c.aW=[])(l)(L)(m:PL L l)(d)(p)(u:BL p d)
 (n:F d<=30) (f:F l<=8) (g:l≠[]) (w:fH (oS c.am) Pr.bN (-1) l=aa):
 ∃r h',SH.call 24 [.agg (aD c a),L,p,.func (.func 16) [] []] h=J (r,h')/\Old h h'/\∃e,c_ {c with bO:=l} e/\j8 e/\dS e/\r=.ret (.tuple [.agg (aD {c with bO:=l} e),(aa:V)]):=by
 have G:cP c (l.filter λ_=>au)=c:=by rw[show l.filter (λ_=>au)=c.bO by rw[o];exact acr.2 λ_ _ z0=>by cases z0]
 have B:=m.dw;obtain⟨k,s,rfl,j⟩:=m;have j:=j g;subst j;have R:=send24m h c a l _ B (λK z2 Z _ b=>⟨_,bj Tryz.underlying32 vD af (by rw[C5];have:=(bk.1 b).1;omega),vm b,λ_=>vm b⟩) d p u n f g ⟨G.symm ▸ E,v,i⟩ λP a Z z1 b=>z1.step q f z A w b;rw[G]at R;exact R
abbrev Zq:=Int × Int
abbrev cZ(c:Ce)(l:List Zq):Ce:={c with aW:=l}
def azb:Tryz.f25.results.toList=[.cell 8 35,.tmp 9]:=by kernel_rfl
structure Bo(c:Ce)(l:List (Int × Int))(P:Int × Int->Bool)(a:CA):Prop where
 ok:c_ {c with aW:=l.filter P} a
 held:dS a
 nil:j8 a
structure Ma(c:Ce):Prop where
 new:c.eC=0
 bO:fH (oS c.am) Pr.bN (-1) c.bO=aa
 all:c.bO.length=c.am.length
def Bo.step{c}{l}{P}{a}(w:Bo c l P a)(b:c.Fit)(f:F l<=8)(e:Ma c)(m:fH (oT c.am) jz (-1) l=aa){p}(n:p∈l):
 ∃d,Bo c l (λq=>P q||decide (q=p)) d/\∀h,SH.call 18 [.agg (aD {c with aW:=l.filter P} a),.agg (bI p)] h=J (.ret (.tuple [.agg (aD {c with aW:=l.filter λq=>P q||decide (q=p)} d),im 0]),h):=by
 have u:F (l.filter P)<=8:=fB (Bc _ _) f;have f2:Ce.Fit {c with aW:=l.filter P}:=⟨b.1,b.2.1,b.2.2.1,b.2.2.2.1,b.2.2.2.2.1,by show(F (l.filter P))<=_;omega⟩;have o:=aoT (P:=P) e.new e.bO e.all m n;obtain⟨d,r,j,g,q⟩:=Io w.ok w.held w.nil f2 (by show(F (l.filter P))<_;omega) p;rw[o]at q;have i:nJ {c with aW:=l.filter P} p={c with aW:=l.filter λq=>P q||decide (q=p)}:=by unfold nJ;rw[o];rfl
 rw[i]at r q;exact⟨d,⟨r,j,g⟩,pY q O q.held⟩
def Vc:∀{l:List (Int × Int)} {j:Nat} {p:Int × Int},l[j]?=J p->((bY l).flatten.drop (2*j)).take 2=bI p/\2*j+2<=F (bY l).flatten
 |q::l,0,p,h=>by injection h with h;subst h;exact⟨O,by show 2<=F (bY l).flatten+1+1;omega⟩
 |q::l,j+1,p,h=>by obtain⟨b,c⟩:=Vc (l:=l) (j:=j) (by simpa using h);exact⟨b,by show 2*j+2+2<=F (bY l).flatten+1+1;omega⟩
def Yj{H}{b j}{l}{p}(e:H.I[b]?=J (bY l).flatten)(h:l[j]?=J p):aL ag Gt H 48 (.ptr (.box b) (2*j))=J (.agg (bI p)):=by obtain⟨c,d⟩:=Vc h;rw[fS bX DJ e d,c]
def alS{b n j}(h:j<n):dU ag 33 (.arr b 0 n n) ((j:Nat):V)=J (.ptr (.box b) (2*j)):=by rw[At uC DJ af af,Int.toNat_natCast,nT,Nat.mul_comm]
section
open Go.Proofs.YtcbhpkjbiehcpaaGreatDoor renaming cZ->Q200,azb->Q202,Zq->Q203,Bo->Q204,bI->Q206
open Go.Proofs.Tryz renaming func25->Q201
open Go renaming kk18->Q205
def send25m(h:ah)(c:Ce)(a:CA)(l:List Zq)(L:V)(hL:dw ag 33 L=J ((F l:Nat):V))(hI:∀(K:ah) (j:Nat) (p:Zq),Old h K->l[j]?=J p->∃A,dU ag 33 L ((j:Nat):V)=J A/\aL ag Gt K 48 A=J (.agg (bI p))/\∀cs,aL ag Gt (K.push cs) 48 A=J (.agg (bI p)))
 (d:List UInt8) (z4:V) (hO:BL z4 d) (Cl:F d<=30) (gU:F l<=8) (gb:l≠[]) (w0:Bo c l (λ_=>au) a)
 (hs:∀(P:Zq->Bool) (a:CA) (p:Zq),Bo c l P a->p∈l->∃e,Bo c l (λq=>P q||decide (q=p)) e/\∀h,SH.call 18 [.agg (aD (cZ c (l.filter P)) a),.agg (bI p)] h=J (.ret (.tuple [.agg (aD (cZ c (l.filter λq=>P q||decide (q=p))) e),im 0]),h)):
 ∃r h',SH.call 25 [.agg (aD (cZ c (l.filter λ_=>au)) a),L,z4,.func (.func 18) [] []] h=J (r,h')/\Old h h'/\∃e,c_ (cZ c l) e/\j8 e/\dS e/\r=.ret (.tuple [.agg (aD (cZ c l) e),(aa:V)]):=ZS30
end
def aaM(h)(c)(a)(z:c_ c a)(u:dS a)(g:j8 a)(p:c.Fit)(w:Ma c)(n:c.aW=[])(l){bz}(i:h.I[bz]?=J (bY l).flatten)(d)(o)(q:BL o d)
 (m:F d<=30) (f:F l<=8) (j:l≠[]) (v:fH (oT c.am) jz (-1) l=aa):
 ∃r h',SH.call 25 [.agg (aD c a),.arr bz 0 (F l) (F l),o,.func (.func 18) [] []] h=J (r,h')/\Old h h'/\∃e,c_ {c with aW:=l} e/\j8 e/\dS e/\r=.ret (.tuple [.agg (aD {c with aW:=l} e),(aa:V)]):=by
 have A:cZ c (l.filter λ_=>au)=c:=by rw[show l.filter (λ_=>au)=c.aW by rw[n];exact acr.2 λ_ _ R=>by cases R]
 have B:=send25m h c a l (.arr bz 0 (F l) (F l)) (Jt uC) (λK z0 G E b=>⟨_,alS (bk.1 b).1,Yj (E _ _ i) b,λ_=>Yj (aX (E _ _ i)) b⟩) d o q m f j ⟨A.symm ▸ z,u,g⟩ λP a G Z b=>Z.step p f w v b;rw[A]at B;exact B
section
variable {X Y C N W T L S:V} {U:List (List Int)} {ae av B:List Int} {aC:List UInt8} {l:List Pr} {s:List (Int × Int)}
def Pn{g}{a}{y}(c:cy SA g a y)(b:LB.contains g=aa)(d:LC.contains g=aa)(e:LD.contains g=aa)(f:LE.contains g=aa)(i:LF.contains g=aa)(j:LG.contains g=aa):cy SG g a y:=UA (c.up (L:=LB) b) d e f i j
def ai2(i:RL X U)(j:IL Y ae):∃b,(b=aa->F U<=80/\F ae<=100)/\cy SG 64 [.agg [aA X,aA Y]] ((b:Bool):V):=by obtain⟨c,d,e,f⟩:=nM i j;obtain⟨_,_,m,b,rfl,g⟩:=air ⟨[],[],0,[]⟩ _ _ U ae c d;exact⟨b,g,Pn (cy.new (L:=LA) m O (lq [.agg [X,Y]]) (by simp[aM,aK,e,f]) O O) O O O O O O⟩
def ai5(c:RL X U)(d:IL Y ae)(b:F U<=1000000):cy SG 40 [.agg [aA X,aA Y]] (im (cI U ae)):=EC (X_ c d b) O O O O O O rfl
def ai6(m:RL X U)(n:IL Y ae)(o:IL N B)(j:F B<=1000)(e:F U<=1000000)(A:Int):
 (jD U ae A B≠0/\cy SG 65 [.agg [aA X,aA Y],im A,aA N] (.tuple [.ac .nil 0 [],.ac .nil 0 [],im (jD U ae A B)]))∨
 (jD U ae A B=0/\∃t1 t2,cK t1=t1/\cK t2=t2/\cy SG 65 [.agg [aA X,aA Y],im A,aA N] (.tuple [.ac t1 2 (bY (fA U (A::B))),.ac t2 1 (aF (bU (A::B))),im 0])):=by
 obtain⟨f,g,b,c⟩:=nM m n;obtain⟨i,d⟩:=o.hold;obtain⟨_,_,q,⟨p,rfl⟩|⟨p,t1,t2,rfl⟩⟩:=aqv ⟨[],[],0,[]⟩ O _ _ _ U ae B A f g i j e
 .exact .inl ⟨p,Pn (cy.new (L:=LA) q O (lq [.agg [X,Y],im A,N]) (by simp[aM,aK,b,c,d,im]) O O) O O O O O O⟩
 .refine .inr ⟨p,cK t1,cK t2,?_,?_,Pn (cy.new (L:=LA) q O (lq [.agg [X,Y],im A,N]) (by simp[aM,aK,b,c,d,im]) O (by rw[aK,aM,aK,fy,EM,aM,aK,fy,jG];rfl)) O O O O O O⟩
  .cases t1<;>rfl
  .cases t2<;>rfl
def ai3(d:RL X U)(e:IL Y ae)(c:IL C av)(b:F av<=1000000)(ep:Int):cy SG 41 [.agg (aJ ep (aA X) (aA Y) (aA C))] (.v (.bool (iI U ep av))):=EC (X7 d e c b) O O O O O O rfl
def ai4(o:RL X U)(p:IL Y ae)(i:IL C av)(n:BL T aC)(j:PL L l)(m:SL S s)(c:F av<=1000000)(e:F l<=1000000)(g:F s<=1000000)(ep b d f:Int):
 cy SG 30 [.agg (aJ ep (aA X) (aA Y) (aA C)),aA T,aA L,im b,aA S,im d,im f] (.tuple [im (na U ae ep av aC l b s d f).1,im (na U ae ep av aC l b s d f).2]):=EC (X8 o p i n j m c e g b d f) O O O O O O rfl
def ai9(d:BL T aC)(c:F aC<=1000000)(b e s:Int):cy SG 26 [im b,aA T,.agg [im e,im s]] (.v (.bool (ol b aC e s))):=EC (Ya d c b e s) O O O O O O rfl
end
structure jg where
 U:List (List Int)
 ae:List Int
 bG:List Int
 doc:Dc
 am:List Int
 eD:List (Int × Int)
structure PA where
 X:V
 Y:V
 N:V
 p:V
 r:V
 n:V
 W:V
 u:V
structure mT(x:jg)(a:PA):Prop where
 px:RL a.X x.U
 py:IL a.Y x.ae
 pn:IL a.N x.bG
 pd:mo x.doc a.p a.r a.n
 pw:IL a.W x.am
 pu:SL a.u x.eD
def hY(x:jg)(a:PA):List V:=[a.X,a.Y,a.N]++bH x.doc a.p a.r a.n++[a.W,a.u]
section
variable {x:jg} {a:PA}
def mT.len(b:mT x a):F (hY x a)=46:=by have:=b.pd.len;unfold hY;simp only[de,eZ,gi];omega
def RL.dt{x}{l}(h:RL x l):x.dt=aa:=by obtain⟨k,s,b,rfl,-⟩:=h;rfl
def mT.cells(b:mT x a):(V.agg (hY x a)).bP=J (hY x a):=by
 have c:=b.pd.cells;have d:a.u.dt=aa:=by obtain⟨k,s,f,-⟩:=b.pu;rw[f];rfl
 unfold V.bP at *
 simp only at c ⊢;split at c
 .rename_i e;rw[aH];unfold hY;rw[qP,qP,e];simp[b.px.dt,b.py.dt,b.pn.dt,b.pw.dt,d]
 .cases c
def ad7:f' ag 59=J aa:=by kernel_rfl
def avL:cQ ag 59=J 46:=by kernel_rfl
def BV:(∀b,eo ag 59 (.ptr (.box b) 0) 0=J (.ptr (.box b) 0))/\(∀b,eo ag 59 (.ptr (.box b) 0) 1=J (.ptr (.box b) 2))/\(∀b,eo ag 59 (.ptr (.box b) 0) 2=J (.ptr (.box b) 3))/\(∀b,eo ag 59 (.ptr (.box b) 0) 3=J (.ptr (.box b) 44))/\(∀b,eo ag 59 (.ptr (.box b) 0) 4=J (.ptr (.box b) 45)):=
 ⟨λ_=>by kernel_rfl,λ_=>by kernel_rfl,λ_=>by kernel_rfl,λ_=>by kernel_rfl,λ_=>by kernel_rfl⟩
def ad6:f' ag 57=J au:=by kernel_rfl
def amo{H:ah}{b:Nat}(c:mT x a)(d:H.I[b]?=J (hY x a)):aL ag Gt H 59 (.ptr (.box b) 0)=J (.agg (hY x a)):=by rw[fS ad7 avL d (by have:=c.len;omega),gP,fK (by have:=c.len;omega)]
def rW{H:ah}{b:Nat}(f:mT x a)(c:H.I[b]?=J (hY x a)):aL ag Gt H 25 (.ptr (.box b) 0)=J (.agg [a.X,a.Y])/\aL ag Gt H 22 (.ptr (.box b) 0)=J a.X/\aL ag Gt H 23 (.ptr (.box b) 1)=J a.Y/\aL ag Gt H 23 (.ptr (.box b) 2)=J a.N/\
 aL ag Gt H 31 (.ptr (.box b) 3)=J (.agg (bH x.doc a.p a.r a.n))/\aL ag Gt H 23 (.ptr (.box b) 44)=J a.W/\aL ag Gt H 57 (.ptr (.box b) 45)=J a.u:=by
 have g:=f.len;have d:=f.pd.len;have e:F ([a.X,a.Y,a.N]:List V)=3:=rfl;refine⟨?_,?_,?_,?_,?_,?_,?_⟩
 .rw[fS bX (by kernel_rfl:cQ ag 25=J 2) c af];rfl
 .rw[fx bX c];rfl
 .rw[fx bX c];rfl
 .rw[fx bX c];rfl
 .rw[fS bX (by kernel_rfl:cQ ag 31=J 41) c af];unfold hY;rw[List.append_assoc,List.drop_left' e,List.take_left' d]
 .rw[fx mV c];unfold hY;rw[Es (i:=0) e d];rfl
 .rw[fx ad6 c];unfold hY;rw[Es (i:=1) e d];rfl
end
def gx:Eh.results.toList=[.cell 2 27,.tmp 3,.tmp 4,.tmp 5,.tmp 6,.tmp 7]:=by kernel_rfl
def Yr{x}{l}(h:SL x l):dw ag 57 x=J ((F l:Nat):V):=by obtain⟨k,s,rfl,-⟩:=h;have b:=Mh;unfold dw;simp only[b,sH]
def vW(r:dV):Prop:=∃X Y C U ae av,RL X U/\IL Y ae/\IL C av/\r=.ret (.tuple [.agg (aJ 0 X Y C),nl,nl,nl,(au:V),(aa:V)])
def anN:RL nl []:=⟨.nil,0,[],O,λb=>absurd O b,O,λc a d h=>by simp at h⟩
def Y0:IL nl []:=⟨.nil,0,O,λb=>absurd O b⟩
def abG:vW (.ret (.tuple [.agg (aJ 0 nl nl nl),nl,nl,nl,(au:V),(aa:V)])):=⟨nl,nl,nl,[],[],[],anN,Y0,Y0,O⟩
inductive ur (b:Bool) (e:Int) (x:jg):Prop where
 |EL:b=au->ur b e x
 |prog:b=aa->e≠0->ur b e x
 |ui:b=aa->e=0->x.U.length=0->ur b e x
 |yw:b=aa->e=0->12<x.U.length->ur b e x
 |uL:b=aa->e=0->0<x.U.length->x.U.length<=12->12<(x.U.getD 0 []).length->ur b e x
 |nums:b=aa->e=0->0<x.U.length->x.U.length<=12->(x.U.getD 0 []).length<=12->x.bG.length≠(x.U.getD 0 []).length->ur b e x
 |am:b=aa->e=0->0<x.U.length->x.U.length<=12->(x.U.getD 0 []).length<=12->x.bG.length=(x.U.getD 0 []).length->8<x.am.length->ur b e x
 |eD:b=aa->e=0->0<x.U.length->x.U.length<=12->(x.U.getD 0 []).length<=12->x.bG.length=(x.U.getD 0 []).length->x.am.length<=8->x.eD.length≠x.am.length->ur b e x
structure Hv(b:Bool)(e:Int)(x:jg):Prop where
 EL:b=aa
 prog:e=0
 ui:0<x.U.length
 yw:x.U.length<=12
 uL:(x.U.getD 0 []).length<=12
 nums:x.bG.length=(x.U.getD 0 []).length
 am:x.am.length<=8
 eD:x.eD.length=x.am.length
def aez(b)(e)(x):ur b e x∨Hv b e x:=by
 cases b with
 |false=>exact .inl (.EL O)|true=>
  by_cases c:e=0;rotate_left 1
  .exact .inl (.prog O c)
  by_cases g:F x.U=0
  .exact .inl (.ui O c g)
  by_cases i:12<F x.U
  .exact .inl (.yw O c i)
  by_cases j:12<F (x.U.getD 0 [])
  .exact .inl (.uL O c af af j)
  by_cases d:F x.bG=F (x.U.getD 0 []);rotate_left 1
  .exact .inl (.nums O c af af af d)
  by_cases m:8<F x.am
  .exact .inl (.am O c af af af d m)
  by_cases f:F x.eD=F x.am
  .exact .inr ⟨O,c,by omega,by omega,by omega,d,by omega,f⟩
  .exact .inl (.eD O c af af af d af f)
def ae0(h:ah){x:jg}{a:PA}(o:mT x a){b:Bool}(c64:∀h,SH.call 64 [.agg [a.X,a.Y]] h=J (.ret ((b:Bool):V),h))(c:b=aa->∀h,SH.call 40 [.agg [a.X,a.Y]] h=J (.ret (im (cI x.U x.ae)),h))(q:ur b (cI x.U x.ae) x):
 ∃r h',SH.call 23 [.agg (hY x a)] h=J (r,h')/\vW r:=by
 have bx:=o.cells;have z27:=GU;obtain⟨H,e⟩:∃H,(h.push (hY x a)).push (aJ 0 nl nl nl)=H:=⟨_,O⟩;have q0:H.I[F h.I]?=J (hY x a):=by rw[<-e];exact aX (aU _ _)
 have n1:=bV h (hY x a);have G:H.I[F h.I+1]?=J (aJ 0 nl nl nl):=by rw[<-e,<-n1];exact aU _ _
 obtain⟨l25,l22,-,lN,-,lW,lU⟩:=rW o q0;have l27:aL ag Gt H 27 (.ptr (.box (F h.I+1)) 0)=J (.agg (aJ 0 nl nl nl)):=by rw[fS bX pW G (lQ O)];rfl
 have s27:b9 ag H 27 (.ptr (.box (F h.I+1)) 0) (.agg (aJ 0 nl nl nl))=J H:=by rw[fI (off:=0) (cs:=aJ 0 nl nl nl) (xs:=aJ 0 nl nl nl) O pW G O (lQ O)];exact congrArg J (ju G)
 have eN:=o.pn.dw;have eW:=o.pw.dw;have eU:=Yr o.pu;have eX:=o.px.dw;obtain⟨k,s,R,eq,hs,fF,D⟩:=o.px;have u22:=gZ;have z23:=iA;have e_:F (R.map λa=>[a])=F x.U:=by rw[bJ];exact fF
 have f59:=BV;have kh:=aj.mk (ar hs D);have ld0:0<F x.U->∃a0,aL ag Gt H 23 (.elem 1 (R.map λa=>[a]) 0 0)=J a0/\dw ag 23 a0=J ((F (x.U.getD 0 []):Nat):V):=λE=>by
  obtain⟨a0,B_⟩:∃a0,R[0]?=J a0:=⟨_,aY af⟩;have B:x.U[0]?=J (x.U.getD 0 []):=by rw[fg,aY E];rfl
  exact⟨a0,jc (H:=H) (s:=1) B_,(D 0 a0 _ B_ B).dw⟩
 have g:0<F x.U->s=1:=λE=>hs (by intro q;rw[q]at E;simp at E);have f:=aj.mk (ar ld0 g);clear ld0 g hs D q0 G o fF;rw[eq]at l22 eX l25 c64 c;clear eq;generalize hY x a=z0 at *
 generalize Z:aJ 0 nl nl nl=KZ at e l27 s27 z27;have m:aj (vW (.ret (.tuple [.agg KZ,nl,nl,nl,(au:V),(aa:V)]))):=⟨by rw[<-Z];exact abG⟩;clear Z;have wp:(V.ac .nil 0 []:V)=nl:=rfl;unfold nl at m;generalize cI x.U x.ae=pe at *
 unfold im at c;refine cA O adp O ?_;cases q with
 |EL d=>subst d;clear f;refine dA @gx @bC @e ?_;refine dW rH bX ?_;refine dA @gx @bC @e ?_;exact⟨_,_,O,m.M⟩|prog d j=>
  have c:=c d;subst d;have qt:decide (pe=0)=au:=cR j;clear f;refine dA @gx @bC @e ?_;refine dW rH bX ?_
  repeat' (first|simp(maxSteps:=9999999) (disch:=first|exact dZ|fail) only[gW,reduceIte,aT,aN,gx,bC,e, *]|refine dX ?_ ?_<;>(intro _;try omega))
  all_goals exact⟨_,_,O,m.M⟩
 |ui d j B=>
  have c:=c d;subst d;subst j;have n:(F x.U:Int)=0:=by omega
  clear f B;refine dA @gx @bC @e ?_;refine dW rH bX ?_
  repeat' (first|simp(maxSteps:=9999999) (disch:=first|exact dZ|fail) only[gW,reduceIte,aT,aN,gx,bC,e,dN,bj, *]|refine dX ?_ ?_<;>(intro _;try omega))
  all_goals exact⟨_,_,O,m.M⟩
 |yw d j B=>
  have c:=c d;subst d;subst j;have n:¬((F x.U:Int)=0):=by omega
  have w:(12:Int)<(F x.U:Int):=by omega
  clear f B;refine dA @gx @bC @e ?_;refine dW rH bX ?_
  repeat' (first|simp(maxSteps:=9999999) (disch:=first|exact dZ|fail) only[gW,reduceIte,aT,aN,gx,bC,e,dN,bj, *]|refine dX ?_ ?_<;>(intro _;try omega))
  all_goals exact⟨_,_,O,m.M⟩
 |uL d j i p u=>
  have c:=c d;subst d;subst j;obtain⟨a0,ld,el⟩:=f.M.1 i;have g:=f.M.2 i;subst g;have n:¬((F x.U:Int)=0):=by omega
  have w:(0:Int)<(F x.U:Int):=by omega
  have v:¬((12:Int)<(F x.U:Int)):=by omega
  have A:(12:Int)<(F (x.U.getD 0 []):Int):=by omega
  clear f i p u;refine dA @gx @bC @e ?_;refine dW rH bX ?_
  repeat' (first|simp(maxSteps:=9999999) (disch:=first|exact dZ|fail) only[gW,reduceIte,aT,aN,gx,bC,e,dN,bj, *]|refine dX ?_ ?_<;>(intro _;try omega))
  all_goals exact⟨_,_,O,m.M⟩
 |nums d j i p u z=>
  have c:=c d;subst d;subst j;obtain⟨a0,ld,el⟩:=f.M.1 i;have g:=f.M.2 i;subst g;have n:¬((F x.U:Int)=0):=by omega
  have w:(0:Int)<(F x.U:Int):=by omega
  have v:¬((12:Int)<(F x.U:Int)):=by omega
  have A:¬((12:Int)<(F (x.U.getD 0 []):Int)):=by omega
  have z':decide ((F x.bG:Int)=(F (x.U.getD 0 []):Int))=au:=cR af;clear f i p u z;refine dA @gx @bC @e ?_;refine dW rH bX ?_
  repeat' (first|simp(maxSteps:=9999999) (disch:=first|exact dZ|fail) only[gW,reduceIte,aT,aN,gx,bC,e,dN,bj, *]|refine dX ?_ ?_<;>(intro _;try omega))
  all_goals exact⟨_,_,O,m.M⟩
 |am d j i p u z h5=>
  have c:=c d;subst d;subst j;obtain⟨a0,ld,el⟩:=f.M.1 i;have g:=f.M.2 i;subst g;have n:¬((F x.U:Int)=0):=by omega
  have w:(0:Int)<(F x.U:Int):=by omega
  have v:¬((12:Int)<(F x.U:Int)):=by omega
  have A:¬((12:Int)<(F (x.U.getD 0 []):Int)):=by omega
  have z':decide ((F x.bG:Int)=(F (x.U.getD 0 []):Int))=aa:=cD af;have OP:(8:Int)<(F x.am:Int):=by omega
  clear f i p u z h5;refine dA @gx @bC @e ?_;refine dW rH bX ?_
  repeat' (first|simp(maxSteps:=9999999) (disch:=first|exact dZ|fail) only[gW,reduceIte,aT,aN,gx,bC,e,dN,bj, *]|refine dX ?_ ?_<;>(intro _;try omega))
  all_goals exact⟨_,_,O,m.M⟩
 |eD d j i p u z h5 h6=>
  have c:=c d;subst d;subst j;obtain⟨a0,ld,el⟩:=f.M.1 i;have g:=f.M.2 i;subst g;have n:¬((F x.U:Int)=0):=by omega
  have w:(0:Int)<(F x.U:Int):=by omega
  have v:¬((12:Int)<(F x.U:Int)):=by omega
  have A:¬((12:Int)<(F (x.U.getD 0 []):Int)):=by omega
  have z':decide ((F x.bG:Int)=(F (x.U.getD 0 []):Int))=aa:=cD af;have OP:¬((8:Int)<(F x.am:Int)):=by omega
  have XA:decide ((F x.eD:Int)=(F x.am:Int))=au:=cR af;clear f i p u z h5 h6;refine dA @gx @bC @e ?_;refine dW rH bX ?_
  repeat' (first|simp(maxSteps:=9999999) (disch:=first|exact dZ|fail) only[gW,reduceIte,aT,aN,gx,bC,e,dN,bj, *]|refine dX ?_ ?_<;>(intro _;try omega))
  all_goals exact⟨_,_,O,m.M⟩
noncomputable def vI:Code:=Eh.body.getD .skip
noncomputable abbrev Bm(Post:dV->ah->Prop):Xt->Env->ah->Prop:=BR ag Gt SH Eh Post
structure jv(x:jg)(a:PA)(h H:ah)(K:List V):Prop where
 vo:H.I[h.I.length]?=J (hY x a)
 key:H.I[h.I.length+1]?=J K
 live:du H=aa
 fG:Old h H
def ae2(h:ah)(fR:du h=aa){x:jg}{a:PA}(d:mT x a){b:Bool}(B:∀h,SH.call 64 [.agg [a.X,a.Y]] h=J (.ret ((b:Bool):V),h))(m:∀h,SH.call 40 [.agg [a.X,a.Y]] h=J (.ret (im (cI x.U x.ae)),h))(q:Hv b (cI x.U x.ae) x)
 {Post:dV->ah->Prop} (R:∀r K,vW r->Post r K)
 (go:(∀n∈x.bG,okF n)->∀e H,jv x a h H (aJ 0 nl nl nl)->e.get 1=.ptr (.box (F h.I)) 0->e.get 2=.ptr (.box (F h.I+1)) 0->e.get 3=nl->e.get 4=nl->e.get 5=nl->e.defers=[]->bM SH (Code.tl 3 vI) e H (Bm Post)):
 ∃r h',SH.call 23 [.agg (hY x a)] h=J (r,h')/\Post r h':=by
 have bx:=d.cells;have z27:=GU;obtain⟨H,c⟩:∃H,(h.push (hY x a)).push (aJ 0 nl nl nl)=H:=⟨_,O⟩;have q0:H.I[F h.I]?=J (hY x a):=by rw[<-c];exact aX (aU _ _)
 have v:=bV h (hY x a);have w:H.I[F h.I+1]?=J (aJ 0 nl nl nl):=by rw[<-c,<-v];exact aU _ _
 obtain⟨l25,l22,-,lN,-,lW,lU⟩:=rW d q0;have l27:aL ag Gt H 27 (.ptr (.box (F h.I+1)) 0)=J (.agg (aJ 0 nl nl nl)):=by rw[fS bX pW w (lQ O)];rfl
 have s27:b9 ag H 27 (.ptr (.box (F h.I+1)) 0) (.agg (aJ 0 nl nl nl))=J H:=by rw[fI (off:=0) (cs:=aJ 0 nl nl nl) (xs:=aJ 0 nl nl nl) O pW w O (lQ O)];exact congrArg J (ju w)
 have eN:=d.pn.dw;have eW:=d.pw.dw;have eU:=Yr d.pu;have eX:=d.px.dw;obtain⟨k,s,xs,eq,hs,Z,jS⟩:=d.px;obtain⟨f,sn,D,G⟩:=d.pn;have u22:=gZ;have u23:=dp;have z23:=iA;have z3:=fa;have e_:F (xs.map λa=>[a])=F x.U:=by rw[bJ];exact Z
 have wp:=db x.bG;have f59:=BV;have p:s=1:=hs (by intro q';have:=q.ui;rw[q']at this;simp at this);subst p;obtain⟨a0,o⟩:∃a0,xs[0]?=J a0:=⟨_,aY (by have:=q.ui;omega)⟩;have hr:x.U[0]?=J (x.U.getD 0 []):=by rw[fg,aY q.ui];rfl
 have ld:=jc (H:=H) (s:=1) o;have el:=(jS 0 a0 _ o hr).dw;have u:aj (jv x a h H (aJ 0 nl nl nl)):=⟨⟨q0,w,by rw[<-c];exact fR,by rw[<-c];exact((Old.refl h).push _).push _⟩⟩;have kgo:=aj.mk go;have kun:=aj.mk R;have kn1:=aj.mk G;rw[eq]at l22 eX l25 B m;rw[D]at lN eN;have Xe:¬((F x.U:Int)=0):=by have:=q.ui;omega
 have hrJ:(0:Int)<(F x.U:Int):=by have:=q.ui;omega
 have Xd:¬((12:Int)<(F x.U:Int)):=by have:=q.yw;omega
 have Wj:¬((12:Int)<(F (x.U.getD 0 []):Int)):=by have:=q.uL;omega
 have z':decide ((F x.bG:Int)=(F (x.U.getD 0 []):Int))=aa:=cD (by have:=q.nums;omega);have OP:¬((8:Int)<(F x.am:Int)):=by have:=q.am;omega
 have XA:decide ((F x.eD:Int)=(F x.am:Int))=aa:=cD (by have:=q.eD;omega);have z:=q.EL;have rO:F x.bG<=12:=by have:=q.uL;have:=q.nums;omega
 rw[q.prog]at m;subst z;clear hs jS q0 w d Z eq D o hr go R G q;generalize hD:hY x a=z2 at bx c v;generalize E:aJ 0 nl nl nl=KZ at c l27 s27 z27;have kz:aj (vW (.ret (.tuple [.agg KZ,.ac .nil 0 [],.ac .nil 0 [],.ac .nil 0 [],(au:V),(aa:V)]))):=⟨by rw[<-E];exact abG⟩;clear E hD;unfold im at m;refine cA O adp O ?_;refine Gs 3 (λe K=>(∀n∈x.bG,okF n)/\e.get 1=.ptr (.box (F h.I)) 0/\e.get 2=.ptr (.box (F h.I+1)) 0/\e.get 3=nl/\e.get 4=nl/\e.get 5=nl/\e.defers=[]/\K=H) ?_ ?_;rotate_left 1
 .rintro e K ⟨zP,g1,g2,g3,g4,g5,gd,rfl⟩;exact kgo.M zP e K u.M g1 g2 g3 g4 g5 gd
 intro b z;have kb:=aj.mk z;clear z kgo u
 repeat' (first|simp(maxSteps:=9999999) (disch:=first|exact dZ|fail) only[gW,reduceIte,aT,aN,gx,bC,c,Code.vq, *]|refine dX ?_ ?_<;>(intro _;try omega))
 refine dW rH bX ?_
 repeat' (first|simp(maxSteps:=9999999) (disch:=first|exact dZ|fail) only[gW,reduceIte,aT,aN,gx,bC,c,dN,bj,Code.vq, *]|refine dX ?_ ?_<;>(intro _;try omega))
 refine cJ (λz1 e K=>∃i:Nat,i<=F x.bG/\z1=F x.bG-i/\aj (∀n∈x.bG.take i,okF n)/\e.get 1=.ptr (.box (F h.I)) 0/\e.get 2=.ptr (.box (F h.I+1)) 0/\e.get 3=.ac .nil 0 []/\e.get 4=.ac .nil 0 []/\e.get 5=.ac .nil 0 []/\e.get 88=.ac f sn (aF x.bG)/\e.get 89=(F x.bG:Nat)/\e.get 90=(i:Nat)/\e.defers=[]/\K=H) ?_ (F x.bG) _ _ ?_;rotate_left 1
 .refine⟨0,cC _,O,⟨λn A=>by simp at A⟩,?_,?_,?_,?_,?_,?_,?_,?_,?_,by first|rfl|trivial⟩<;>first|(simp only[gW,reduceIte,aT,aN,v];done)|(simp only[gW,reduceIte,aT,aN,v]<;>rfl)
 clear bx c v z27 lW lU eW eU Xe hrJ Xd Wj z' OP XA ld el m B l25 l22 eX;rintro z1 e K ⟨i,hi,rfl,ki,g1,g2,g3,g4,g5,g88,g89,g90,gd,rfl⟩;by_cases g:i<F x.bG
 .have p:sn=1:=kn1.M (by intro q;rw[q]at g;simp at g);subst p;have ldn:=eI (H:=K) (l:=x.bG) (i:=i) (s:=1) g;have gG:(i:Int)<(F x.bG:Int):=by omega
  have kv:=aj.mk (show x.bG[i]?=J (al x.bG i) by rw[aY g,fL g]);generalize al x.bG i=z0 at *
  unfold im at *
  by_cases h1:z0<0
  .refine bF @gx @bj ?_;exact⟨_,_,O,kun.M _ _ kz.M⟩
  .by_cases h2:(1073741789:Int)<=z0
   .refine bF @gx @bj ?_;exact⟨_,_,O,kun.M _ _ kz.M⟩
   .have ki2:aj (∀n∈x.bG.take (i+1),okF n):=⟨λn A=>by
     rw[ga kv.M]at A;rcases yP.1 A with q|q
     .exact ki.M n q
     .rw[iL.1 q];exact⟨af,by show z0<1073741789;omega⟩⟩
    refine bF @gx @bj ?_;exact⟨F x.bG-(i+1),by omega,i+1,by omega,O,ki2,by simp⟩
 .have:i=F x.bG:=by omega
  subst this;have j:=ki.M;rw[List.take_length]at j;have ka:=aj.mk j;clear j;refine bD @gx ?_;exact kb.M _ _ ⟨ka.M,g1,g2,g3,g4,g5,gd,O⟩
def aun(k){l}(h:0<F l):∃c,gY ag 23 (.ac k 1 (aF l)) (J (.v (.int .i64 1))) none none=J (.ac c 1 (aF (l.drop 1))):=by have b:F (aF l)=F l:=db l;refine⟨qj k aa au (F l-1),?_⟩;unfold gY;simp only[Option.isSome_none,Bool.false_and,jw,if_false,dp,fa,gE,b];rw[aH af];simp only[aF];simp[fK]
def MR{U}(h:0<F U):cr U=F (U.getD 0 []):=by unfold cr;rw[aV af]
def ahI{x}{b}(q:Hv b (cI x.U x.ae) x)(c:∀n∈x.bG,okF n)(g:0<F x.bG):jD x.U x.ae (al x.bG 0) (x.bG.drop 1)=0:=by
 unfold jD;rw[aV (by rw[q.prog];simp),aH];have d:cG (al x.bG 0)=aa:=by have:=c _ (Eu g);unfold cG;simp[this.1,this.2]
 have e:(x.bG.drop 1).all cG=aa:=by rw[List.all_eq_true];intro n f;have:=c n (List.mem_of_mem_drop f);unfold cG;simp[this.1,this.2]
 rw[d,e,MR q.ui,<-q.nums];simp only[Bool.true_and,fJ,decide_eq_true_eq];omega
def ahn{l}(h:0<F l):al l 0::l.drop 1=l:=by
 cases l with|nil=>simp at h|cons a t=>rfl
def jg.dk(x:jg):Ce:=⟨x.U,x.ae,0,bU x.bG,x.doc,x.am,[],[]⟩
def PA.ca(a:PA)(t:Tok)(x:jg):CA:=⟨a.X,a.Y,.ac t 1 (aF (bU x.bG)),a.p,a.r,a.n,a.W,nl,nl⟩
def mT.ce{x}{a}(b:mT x a)(t):c_ x.dk (a.ca t x):=⟨b.px,b.py,⟨_,_,O,λ_=>rfl⟩,b.pd,b.pw,⟨.nil,0,O,λc=>absurd O c⟩,⟨.nil,0,O,λc=>absurd O c⟩⟩
def ae3(h:ah){x:jg}{a:PA}(c:mT x a){b:Bool}(q:Hv b (cI x.U x.ae) x)(E:x.doc.oY)(hn:∀n∈x.bG,okF n){Post:dV->ah->Prop}(Ak:∀r K,vW r->Post r K)
 (go:x.dk.eC=0->iI x.U 0 (bU x.bG)=aa->∀t1 t2 e H,jv x a h H (aJ 0 a.X a.Y (.ac t2 1 (aF (bU x.bG))))->e.get 1=.ptr (.box (F h.I)) 0->e.get 2=.ptr (.box (F h.I+1)) 0->e.get 3=nl->e.get 4=nl->e.get 5=nl->e.get 10=.ac t1 2 (bY (fA x.U x.bG))->e.defers=[]->bM SH (Code.tl 6 vI) e H (Bm Post))
 {e:Env} {H:ah} (v:jv x a h H (aJ 0 nl nl nl)) (g1:e.get 1=.ptr (.box (F h.I)) 0) (g2:e.get 2=.ptr (.box (F h.I+1)) 0) (g3:e.get 3=nl) (g4:e.get 4=nl) (g5:e.get 5=nl) (gd:e.defers=[]):
 bM SH (Code.tl 3 vI) e H (Bm Post):=by
 have d:0<F x.bG:=by have h1:=(pm q.prog).1;rw[MR q.ui]at h1;have:=q.nums;omega
 have gb:x.bG≠[]:=by intro z1;rw[z1]at d;simp at d
 obtain⟨l25,l22,-,lN,lD,lW,lU⟩:=rW c v.vo;have E':=ahI q hn d;have rO:F x.bG<=12:=by have:=q.uL;have:=q.nums;omega
 have hrb:=q.yw;obtain⟨f,sn,eqn,Xn⟩:=c.pn;have eM:=Xn gb;subst eM;obtain⟨k2,esl⟩:=aun f d;have hz:IL (.ac k2 1 (aF (x.bG.drop 1))) (x.bG.drop 1):=⟨k2,1,O,λ_=>rfl⟩;rcases ai6 c.px c.py hz (by rw[fJ];omega) af (al x.bG 0) with⟨z1,-⟩|⟨-,t1,t2,ht1,Xu,z0⟩
 .exact absurd E' z1
 rw[ahn d]at z0;have c65:=pY z0 O (show bE [.agg [a.X,a.Y],im (al x.bG 0),.ac k2 1 (aF (x.bG.drop 1))]=_ from O);have okc:=c.ce t2;have A:IL (.ac t2 1 (aF (bU x.bG))) (bU x.bG):=⟨_,_,O,λ_=>rfl⟩;have R:=Nu okc;have fw:F (bU x.bG)=F x.bG:=by unfold bU;simp
 have fit:x.dk.Fit:=⟨by show List.length x.U<=_;omega,by show(List.length (bU x.bG))<=_;omega,by have:=q.am;exact Nat.le_trans this bm,E,Nat.zero_le _,Nat.zero_le _⟩;have c12:=pY (ai7 R (Is _) fit) O (show bE [.agg (aJ 0 a.X a.Y (.ac t2 1 (aF (bU x.bG)))),.agg (bH x.doc a.p a.r a.n),a.W]=_ by simp only[bE,aA,xF,aJ];rfl);have z:=pY (ai3 c.px c.py A af 0) O (show bE [.agg (aJ 0 a.X a.Y (.ac t2 1 (aF (bU x.bG))))]=_ by simp only[bE,aA,aJ]);have oN:=yn R;have Pk:=oN.len;have w:=oN.cells;have bK:=mD (ep:=0) c.px c.py A;have g:=aj.mk (And.intro c.px (And.intro c.py A));have b0:=Tr c.px c.py A;have z35:=vH;have ldn:=eI (H:=H) (l:=x.bG) (i:=0) (s:=1) d;obtain⟨p,u⟩:∃p,H.put (List.length h.I+1) (aJ 0 a.X a.Y (.ac t2 1 (aF (bU x.bG))))=p:=⟨_,O⟩;have We:=(List.getElem?_eq_some_iff.1 v.key).1;have v1:b9 Tryz.prog H 27 (.ptr (.box (List.length h.I+1)) 0) (.agg (aJ 0 a.X a.Y (.ac t2 1 (aF (bU x.bG)))))=some p:=by rw[<-u,fI (off:=0) (cs:=aJ 0 nl nl nl) (xs:=aJ 0 a.X a.Y (.ac t2 1 (aF (bU x.bG)))) bK pW v.key O (Nat.le_of_ble_eq_true O)];rfl
 have y0:p.I[F h.I]?=J (hY x a):=by rw[<-u,cS af];exact v.vo
 have y1:p.I[F h.I+1]?=J (aJ 0 a.X a.Y (.ac t2 1 (aF (bU x.bG)))):=by rw[<-u];exact dM We
 obtain⟨m,j⟩:∃m,p.push (aD (jI x.dk) (jk x.dk (hA (a.ca t2 x))))=m:=⟨_,O⟩;have v2:b9 ag (p.push (aD c0 a0)) 35 (.ptr (.box (F p.I)) 0) (.agg (aD (jI x.dk) (jk x.dk (hA (a.ca t2 x)))))=J m:=by rw[<-j];exact sJ Pk w
 have w0:m.I[F h.I]?=J (hY x a):=by rw[<-j];exact aX y0
 have Z:m.I[F h.I+1]?=J (aJ 0 a.X a.Y (.ac t2 1 (aF (bU x.bG)))):=by rw[<-j];exact aX y1
 have m25:=(rW c y0).1;have m31:=(rW c y0).2.2.2.2.1;have m23:=(rW c y0).2.2.2.2.2.1;have m27:=yh y1;have n27:=yh Z;have s27:b9 ag m 27 (.ptr (.box (F h.I+1)) 0) (.agg (aJ 0 a.X a.Y (.ac t2 1 (aF (bU x.bG)))))=J m:=by rw[fI (off:=0) (cs:=aJ 0 a.X a.Y (.ac t2 1 (aF (bU x.bG)))) (xs:=aJ 0 a.X a.Y (.ac t2 1 (aF (bU x.bG)))) bK pW Z O (lQ O)];exact congrArg J (ju Z)
 have kgo:=aj.mk go;have kun:=aj.mk Ak;have G:aj (jv x a h m (aJ 0 a.X a.Y (.ac t2 1 (aF (bU x.bG))))):=⟨⟨w0,Z,by rw[<-j,<-u];exact v.live,by rw[<-j,<-u];exact(v.fG.put (Nat.le_succ _) _).push _⟩⟩;have u23:=dp;have z3:=fa;have f59:=BV;have e_:=db x.bG;rw[eqn]at lN;have I4:(0:Int)<(F x.bG:Int):=by omega
 refine Gs 3 (λo K'=>x.dk.eC=0/\iI x.U 0 (bU x.bG)=aa/\o.get 1=.ptr (.box (F h.I)) 0/\o.get 2=.ptr (.box (F h.I+1)) 0/\o.get 3=nl/\o.get 4=nl/\o.get 5=nl/\o.get 10=.ac t1 2 (bY (fA x.U x.bG))/\o.defers=[]/\K'=m) ?_ ?_;rotate_left 1
 .rintro o K' ⟨m1,m2,m3,m4,m5,m6,m7,m8,m9,rfl⟩;exact kgo.M m1 m2 t1 t2 o K' G.M m3 m4 m5 m6 m7 m8 m9
 intro bb nD;have kb:=aj.mk nD;clear nD kgo G;unfold vI;simp only[Eh,vR,Code.tl,Code.vq];clear c q E hn go Ak v hz z0 okc A fw fit oN w y0 y1 w0 Z R E' eqn Xn gb lU l22 lW lD d We;generalize hK:aJ 0 a.X a.Y (.ac t2 1 (aF (bU x.bG)))=K at *
 generalize aD (jI x.dk) (jk x.dk (hA (a.ca t2 x)))=N at *
 generalize aD c0 a0=Z0 at *
 unfold im at *
 refine bD @gx ?_;refine dW rH bX ?_;by_cases B:x.dk.eC=0;rotate_left 1
 .have dE:decide (x.dk.eC=0)=au:=cR B;clear B z;generalize x.dk.eC=ne at *
  refine cg @gx @bj @bC @j ?_;exact⟨_,_,O,kun.M _ _ ⟨_,_,_,_,_,_,g.M.1,g.M.2.1,g.M.2.2,by rw[hK]⟩⟩
 have kE:=aj.mk B;rw[B]at c12;clear B;cases D:iI x.U 0 (bU x.bG) with|false=>rw[D]at z;clear D;refine cg @gx @bj @bC @j ?_;exact⟨_,_,O,kun.M _ _ ⟨_,_,_,_,_,_,g.M.1,g.M.2.1,g.M.2.2,by rw[hK]⟩⟩|true=>rw[D]at z;have kR:=aj.mk D;clear D;refine cg @gx @bj @bC @j ?_;exact kb.M _ _ ⟨kE.M,kR.M,by simp only[gW,reduceIte,aT,aN];exact g1,by simp only[gW,reduceIte,aT,aN];exact g2,by simp only[gW,reduceIte,aT,aN];exact g3,by simp only[gW,reduceIte,aT,aN];exact g4,by simp only[gW,reduceIte,aT,aN];exact g5,by exact gS,by simp only[gW,reduceIte,aT,aN];exact gd,O⟩
def yr(x:jg)(i:Nat):Pr:=mZ (al x.am i) (x.eD.getD i (0,0)).1 (x.eD.getD i (0,0)).2
def di(x:jg):List Pr:=(bT (F x.am)).map (yr x)
def AD(p:Int × Int):Prop:=okF p.1/\okF p.2
def Zt{x}{i}(h:i<F x.am):(di x)[i]?=J (yr x i):=by unfold di;rw[eF,Bb h];rfl
def aml{H}{l}{i s}{p}(h:l[i]?=J p):aL ag Gt H 108 (.elem s (bY l) i 0)=J (.agg (bI p)):=by rw[CO bX (by kernel_rfl:cQ ag 108=J 2) (row:=bI p) (by unfold bY;rw[eF,h];rfl) (bh 2)];rfl
def aw0:(gp ag 108).bind V.bP=J (bI (0,0)):=by kernel_rfl
def auL{H:ah}{p}:b9 ag (H.push (bI (0,0))) 108 (.ptr (.box (F H.I)) 0) (.agg (bI p))=J (H.push (bI p)):=by rw[fI (off:=0) (cs:=bI (0,0)) (xs:=bI p) O (by kernel_rfl:cQ ag 108=J 2) (aU _ _) O (bh 2)];have b:ej (bI (0,0)) 0 (bI p)=bI p:=rfl;rw[b];exact congrArg J (ml _ _ _)
def ak4:(∀b,dU ag 108 (.ptr (.box b) 0) (.v (.int .i64 0))=J (.ptr (.box b) 0))/\(∀b,dU ag 108 (.ptr (.box b) 0) (.v (.int .i64 1))=J (.ptr (.box b) 1)):=⟨λ_=>by kernel_rfl,λ_=>by kernel_rfl⟩
def CT{c:Ce}(h:c.eC=0):g_ c.doc=aa:=by
 unfold Ce.eC NT.eC at h;split at h
 .rename_i b;exact absurd h b
 .split at h
  .exact absurd h bm
  .split at h
   .exact absurd h bm
   .rename_i b;simpa using b
section
variable {x:jg} {a:PA} {h K:ah} {k:List V} {t:Tok}
def jv.push(b:jv x a h K k)(cs:List V):jv x a h (K.push cs) k:=⟨aX b.vo,aX b.key,b.live,b.fG.push cs⟩
def jv.app(b:jv x a h K k)(c:dm 0 K t):jv x a h (K.app t) k:=⟨by rw[ey];exact b.vo,by rw[ey];exact b.key,Bs b.live c,λ_ _ d=>by rw[ey];exact b.fG _ _ d⟩
def Ud(b:jv x a h K k)(c:dm 0 K t):dm 0 (K.app t) (.free K.tn):=(Grown.one c b.live (cC _)).can
end
def ae4(h:ah){x:jg}{a:PA}(d:mT x a)(A:x.doc.oY)(yd:F x.am<=8)(B:F x.eD=F x.am)(NJ:F (bU x.bG)<=1000000)(hr8:F x.U<=1000000)(hE:x.dk.eC=0){t2:Tok}{Post:dV->ah->Prop}(Ak:∀r K,vW r->Post r K)
 (go:(∀n∈x.eD,AD n)->∀T,BL T (cH (gg x.doc))->aA T=T->∀L e K,PL L (di x)->jv x a h K (aJ 0 a.X a.Y (.ac t2 1 (aF (bU x.bG))))->e.get 1=.ptr (.box (F h.I)) 0->e.get 2=.ptr (.box (F h.I+1)) 0->e.get 3=T->e.get 4=L->e.get 5=nl->∀{t1},e.get 10=.ac t1 2 (bY (fA x.U x.bG))->e.defers=[]->bM SH (Code.tl 9 vI) e K (Bm Post))
 {t1:Tok} {e:Env} {H:ah} (hB:jv x a h H (aJ 0 a.X a.Y (.ac t2 1 (aF (bU x.bG))))) (g1:e.get 1=.ptr (.box (F h.I)) 0) (g2:e.get 2=.ptr (.box (F h.I+1)) 0) (g3:e.get 3=nl) (R:e.get 4=nl) (g5:e.get 5=nl) (z:e.get 10=.ac t1 2 (bY (fA x.U x.bG))) (gd:e.defers=[]):
 bM SH (Code.tl 6 vI) e H (Bm Post):=by
 obtain⟨-,-,-,-,lD,lW,-⟩:=rW d hB.vo;have okc:=d.ce t2;have okh:=Nu okc;have fit:x.dk.Fit:=⟨hr8,NJ,fB yd bm,A,cC _,cC _⟩;obtain⟨T,hT,VX,cT⟩:=Vy okh (Is _) fit (CT hE);have HM:=pY cT O (show bE [.agg (bH x.doc a.p a.r a.n)]=_ by simp only[bE,aA,xF];rfl);have w:=λk z1 z2=>pY (B6 k z1 z2) O (B6 k z1 z2).held;have hC:IL (.ac t2 1 (aF (bU x.bG))) (bU x.bG):=⟨_,_,O,λ_=>rfl⟩;have bK:=mD (ep:=0) d.px d.py hC;have i:=aj.mk (ar d.px (ar d.py hC));have eW:=d.pw.dw;obtain⟨kw,sw,eqw,FG⟩:=d.pw;obtain⟨ku,su,equ,FE⟩:=d.pu;have kwu:=aj.mk (ar FG FE);have kok:=aj.mk d;have keu:=aj.mk equ;rw[eqw]at lW eW;have u23:=dp;have u57:=Mh;have z3:=fa;have z108:cQ ag 108=J 2:=by kernel_rfl
 have f59:=BV;have zc:=aw0;have ia:=ak4;have e_:=db x.am;have XB:=sH x.eD;have kgo:=aj.mk go;have kun:=aj.mk Ak;have kB:=aj.mk hB;have kT:=aj.mk (ar hT VX);clear hT VX go Ak hB cT okc okh fit hC A FG FE d eqw equ hE;generalize hK:aJ 0 a.X a.Y (.ac t2 1 (aF (bU x.bG)))=j at *
 unfold im at *
 refine Gs 3 (λg K'=>(∀n∈x.eD,AD n)/\∃L,PL L (di x)/\jv x a h K' j/\g.get 1=.ptr (.box (F h.I)) 0/\g.get 2=.ptr (.box (F h.I+1)) 0/\g.get 3=T/\g.get 4=L/\g.get 5=nl/\g.get 10=.ac t1 2 (bY (fA x.U x.bG))/\g.defers=[]) ?_ ?_;rotate_left 1
 .rintro g K' ⟨m0,L,mL,m1,m2,m3,m4,m5,m6,m7,m8⟩;exact kgo.M m0 T kT.M.1 kT.M.2 L g K' mL m1 m2 m3 m4 m5 m6 m7 m8
 intro bb nD;have kb:=aj.mk nD;clear nD kgo;unfold vI;simp only[Eh,vR,Code.tl,Code.vq];refine bD @gx ?_;have kK:=aj.mk hK;have E:F j=4:=by rw[<-hK];rfl
 have u:=aj.mk (ar E bK);clear hK E;refine cJ (λz4 e K=>∃(c:Nat) (t:Tok) (G:Nat),c<=F x.am/\z4=F x.am-c/\aj (jv x a h K j/\dm 0 K t)/\aj (G=4∨((di x).take c=[]/\t=.nil))/\aj (∀n∈x.eD.take c,AD n)/\
  e.get 1=.ptr (.box (F h.I)) 0/\e.get 2=.ptr (.box (F h.I+1)) 0/\e.get 3=T/\e.get 4=.ac t G (cL ((di x).take c))/\e.get 5=nl/\e.get 10=.ac t1 2 (bY (fA x.U x.bG))/\e.get 151=.ac kw sw (aF x.am)/\e.get 152=(F x.am:Nat)/\e.get 153=(c:Nat)/\e.defers=[]) ?_ (F x.am) _ _ ?_
 rotate_left 1
 .refine⟨0,.nil,0,cC _,O,⟨⟨kB.M,.inl O⟩⟩,⟨.inr ⟨O,O⟩⟩,⟨λn Z=>by simp at Z⟩,?_,?_,?_,?_,?_,?_,?_,?_,?_,?_⟩<;>first|(simp only[gW,reduceIte,aT,aN];done)|(exact gA)|(exact gR)
 clear g1 g2 g3 R g5 z gd lD lW eW kB HM;rintro z4 e K ⟨c,t,G,hi,rfl,p,D,kN,g1,g2,g3,R,g5,z,g151,g152,g153,gd⟩;by_cases o:c<F x.am
 .have eM:sw=1:=kwu.M.1 (by intro q;rw[q]at o;simp at o);have qx:su=2:=kwu.M.2 (by intro q;rw[q]at B;simp at B;omega);subst eM;subst qx;have Pg:=eI (H:=K) (l:=x.am) (i:=c) (s:=1) o;have gG:(c:Int)<(F x.am:Int):=by omega
  have ako:(c:Int)<(F x.eD:Int):=by omega
  obtain⟨f,hp⟩:∃f,x.eD[c]?=J f:=⟨_,aY af⟩;have lU:=(rW kok.M p.M.1.vo).2.2.2.2.2.2;rw[keu.M]at lU;have Pc:=aml (H:=K) (s:=2) hp;have sto:=auL (H:=K) (p:=f);have q0:aL ag Gt (K.push (bI f)) 3 (.ptr (.box (F K.I)) 0)=J ((f.1:Int):V):=by rw[fx eH (aU _ _)];rfl
  have q1:aL ag Gt (K.push (bI f)) 3 (.ptr (.box (F K.I)) 1)=J ((f.2:Int):V):=by rw[fx eH (aU _ _)];rfl
  have b:=aj.mk (ar (p.M.1.push (bI f)) (show dm 0 (K.push (bI f)) t by rw[tj];exact p.M.2));have l27:aL ag Gt (K.push (bI f)) 27 (.ptr (.box (F h.I+1)) 0)=J (.agg j):=by rw[<-kK.M];exact yh (by rw[kK.M];exact b.M.1.key)
  have s27:b9 ag (K.push (bI f)) 27 (.ptr (.box (F h.I+1)) 0) (.agg j)=J (K.push (bI f)):=by rw[fI (off:=0) (cs:=j) (xs:=j) u.M.2 pW b.M.1.key u.M.1 (by have:=u.M.1;omega),vA (by have:=u.M.1;omega)];exact congrArg J (ju b.M.1.key)
  have kU:aj (∀K,Post (.ret (.tuple [.agg j,.ac .nil 0 [],.ac .nil 0 [],.ac .nil 0 [],(au:V),(aa:V)])) K):=⟨λ_=>kun.M _ _ ⟨_,_,_,_,_,_,i.M.1,i.M.2.1,i.M.2.2,by rw[kK.M]⟩⟩;have ap:=aef (H:=K.push (bI f)) (l:=(di x).take c) (p:=yr x c) (by rw[dJ];have:F (di x)=F x.am:=(by unfold di;simp);omega) D.M b.M.2;rw[<-ga (Zt o)]at ap;have bl:=afv (yr x c);have kA:=aj.mk (ar (b.M.1.app b.M.2) (Ud b.M.1 b.M.2));have ex:yr x c=mZ (al x.am c) f.1 f.2:=by unfold yr;rw[fg,hp];rfl
  have cn:=w (al x.am c) f.1 f.2;rw[<-ex]at cn;have kp:=aj.mk hp;clear ex hp w kun i;generalize yr x c=pr at *
  generalize bB pr=PR at *
  generalize al x.am c=wi at *
  generalize vd:f.1=p1 at *
  generalize oL:f.2=p2 at *
  have v:=aj.mk (ar vd oL);clear vd oL;generalize bI f=SR at *
  generalize bI (0,0)=S0 at *
  unfold im at *
  by_cases h1:p1<0
  .refine bF @gx @bj ?_;exact⟨_,_,O,kU.M _⟩
  by_cases h2:(1073741789:Int)<=p1
  .refine bF @gx @bj ?_;exact⟨_,_,O,kU.M _⟩
  by_cases h3:p2<0
  .refine bF @gx @bj ?_;exact⟨_,_,O,kU.M _⟩
  by_cases h4:(1073741789:Int)<=p2
  .refine bF @gx @bj ?_;exact⟨_,_,O,kU.M _⟩
  have kN2:aj (∀n∈x.eD.take (c+1),AD n):=⟨λn Z=>by
   rw[ga kp.M]at Z;rcases yP.1 Z with q|q
   .exact kN.M n q
   .rw[iL.1 q];exact⟨⟨by rw[v.M.1];omega,by rw[v.M.1];show p1<1073741789;omega⟩,⟨by rw[v.M.2];omega,by rw[v.M.2];show p2<1073741789;omega⟩⟩⟩
  refine bF @gx @bj ?_;exact⟨F x.am-(c+1),by omega,c+1,_,4,by omega,O,kA,⟨.inl O⟩,kN2,by simp⟩
 .have gq:c=F x.am:=by omega
  subst gq;have e1:(di x).take (F x.am)=di x:=fK (by unfold di;simp);rw[e1]at R D;have m:=kN.M;rw[fK (Nat.le_of_eq B)]at m;have kN3:=aj.mk m;clear m e1 w;refine bD @gx ?_;have hJ:PL (.ac t G (cL (di x))) (di x):=⟨t,G,O,λq=>by
   rcases D.M with z0|⟨z0,-⟩
   .exact z0
   .exact absurd z0 q⟩
  exact kb.M _ _ ⟨kN3.M,_,hJ,p.M.1,by simp only[gW,reduceIte,aT,aN];exact g1,by simp only[gW,reduceIte,aT,aN];exact g2,by simp only[gW,reduceIte,aT,aN];exact g3,by simp only[gW,reduceIte,aT,aN];exact R,by simp only[gW,reduceIte,aT,aN];exact g5,by simp only[gW,reduceIte,aT,aN];exact z,by simp only[gW,reduceIte,aT,aN];exact gd⟩
structure vK(K:ah)(s t:Tok):Prop where
 one:dm 0 K s
 two:dm 0 K t
 apart:∀m,t=.free m->s≠ .free m
def vK.push{K}{s t}(w:vK K s t)(cs):vK (K.push cs) s t:=⟨by rw[tj];exact w.one,by rw[tj];exact w.two,w.apart⟩
def vK.app{K}{s t}(w:vK K s t)(d:du K=aa):vK (K.app t) s (.free K.tn):=by
 refine⟨BA w.one w.apart,(Grown.one w.two d (cC _)).can,λf e b=>?_⟩;injection e with e;subst e;rcases w.one with rfl|rfl|⟨f,rfl,-,c⟩
 .cases b
 .cases b
 .injection b with b;have:=qV c;omega
def vK.swap{K}{s t}(w:vK K s t):vK K t s:=⟨w.two,w.one,λb c d=>w.apart b d c⟩
def C4(x:jg)(i:Nat):List (Int × Int):=oQ x.ae [al x.am i] (fA x.U x.bG)
def nG(x:jg)(i:Nat):Int × Int:=na x.U x.ae 0 (bU x.bG) (cH (gg x.doc)) (di x) (al x.am i) (C4 x i) (x.eD.getD i (0,0)).1 (x.eD.getD i (0,0)).2
def fT(x:jg):List (Int × Int):=(bT (F x.am)).map λb=>(al x.am b,(nG x b).1)
def aoW{x}{i}(h:i<F x.am):(fT x)[i]?=J (al x.am i,(nG x i).1):=by unfold fT;rw[eF,Bb h];rfl
def aox(x)(i):F (C4 x i)<=F x.U:=by have:=PP (ae:=x.ae) (am:=[al x.am i]) (fA x.U x.bG);rw[EF]at this;unfold C4;simpa using this
def afx(p):fC ag 33 1 [(0,.agg (bI p))]=J (.ac .aP 2 [bI p]):=by kernel_rfl
def afz(p):fC ag 72 1 [(0,.agg (bI p))]=J (.ac .aP 2 [bI p]):=by kernel_rfl
def ale:∃i,ag.info? 48=J i/\i.size=2/\i.bytes<=64/\(i.zero.map λz=>z.cells.size)=J 2:=by
 have h:(match ag.info? 48 with|some i=>Nat.beq i.size 2&&Nat.ble i.bytes 64&&decide ((i.zero.map λz=>z.cells.size)=J 2)|none=>au)=aa:=by kernel_rfl
 cases b:ag.info? 48 with
 |none=>rw[b]at h;cases h
 |some i=>rw[b]at h;simp only[bQ,decide_eq_true_eq]at h;exact⟨i,O,Nat.eq_of_beq_eq_true h.1.1,lQ h.1.2,h.2⟩
def PB(h K:ah)(v:V)(l:List (Int × Int)):Prop:=(l=[]/\v=.ac .nil 0 [])∨∃b,F h.I+1<b/\l≠[]/\v=.arr b 0 (F l) (F l)/\K.I[b]?=J (bY l).flatten
def PB.push{h K}{v}{l}(p:PB h K v l)(cs):PB h (K.push cs) v l:=p.imp id λ⟨b,h1,h2,h3,h4⟩=>⟨b,h1,h2,h3,aX h4⟩
def PB.app{h K}{v}{l}(p:PB h K v l)(t):PB h (K.app t) v l:=p.imp id λ⟨b,h1,h2,h3,h4⟩=>⟨b,h1,h2,h3,by rw[ey];exact h4⟩
def ZX{K:ah}{b c}{cs d}(e:b≠c)(f:K.I[c]?=J d):(K.put b cs).I[c]?=J d:=by show(K.I.set b cs)[c]?=_;rw[List.getElem?_set_ne e];exact f
def jv.put{x}{a}{h K}{k}(w:jv x a h K k){b}(c:F h.I+1<b)(cs):jv x a h (K.put b cs) k:=⟨ZX af w.vo,ZX af w.key,w.live,w.fG.put af cs⟩
def aiD(l):F (bY l).flatten=F l*2:=by
 unfold bY
 induction l with
 |nil=>rfl|cons c l b=>simp only[dR,List.flatten_cons,de,b,eZ];show 2+_=_;omega
def av2{x}{a}{h K}{k}{v}{l}(w:jv x a h K k)(z:PB h K v l)(D:F l<1000000)(d:F h.I+1<F K.I)(p):
 ∃m f,ng ag K #[33,33] v (.ac .aP 2 [bI p])=J (m,f)/\PB h f m (l++[p])/\jv x a h f k:=by
 obtain⟨o,g,b,A,i⟩:=ale;have B:=kL (af:F l+1<=1000000) A;have e:l++[p]≠[]:=by simp
 have j:F (l++[p])=F l+1:=by simp
 have c:(bY (l++[p])).flatten=(bY l).flatten++[bI p].flatten:=by rw[<-aaS,List.flatten_append]
 rcases z with⟨rfl,rfl⟩|⟨n,q,r,rfl,u⟩
 .have:=AT (P:=ag) (t0:=33) (t1:=33) (h:=K) (k:=.nil) (sz:=0) (es:=[]) (new:=[bI p]) (i:=o) (x:=.ac .aP 2 [bI p]) uC uC g af (by rw[b];exact i) cE (by simp;omega) cE (.inr O) (.inl O) (by rw[b];exact CU);refine⟨_,_,this,.inr ⟨F K.I,d,e,O,?_⟩,w.push _⟩;rw[aU,c];rfl
 .have:=GJ (P:=ag) (t0:=33) (t1:=33) (h:=K) (b:=n) (len:=l.length) (cs:=(bY l).flatten) (new:=[bI p]) (i:=o) (x:=.ac .aP 2 [bI p]) uC uC g af (by rw[b];exact i) cE (by simp;omega) (by simp;omega) u (Bd.mpr r) (by rw[b,aiD]) (by rw[b];exact CU);refine⟨_,_,this,.inr ⟨F K.I,d,e,by rw[j];rfl,?_⟩,(w.put q []).push _⟩;have:F (K.put n []).I=F K.I:=by show(F (K.I.set n []))=_;simp
  rw[<-this,aU,c]
def aeR:∀a b,iP ag 48 [(0,.v a),(1,.v b)]=J (.agg [.v a,.v b]):=λ_ _=>by kernel_rfl
def ak9:(∀s es k,dU ag 108 (.elem s es k 0) (.v (.int .i64 0))=J (.elem s es k 0))/\(∀s es k,dU ag 108 (.elem s es k 0) (.v (.int .i64 1))=J (.elem s es k 1)):=⟨λ_ _ _=>by kernel_rfl,λ_ _ _=>by kernel_rfl⟩
def ae5(h:ah){x:jg}{a:PA}(D:mT x a)(yd:x.am.length<=8)(wp:x.eD.length=x.am.length)(NJ:(bU x.bG).length<=1000000)(Xd:x.U.length<=12)(z:x.U.length=x.ae.length){t2:Tok}{T L:V}(hT:BL T (cH (gg x.doc)))(hL:PL L (di x))
 (hm:∀i,i<x.am.length->(nG x i).2=0/\okF (nG x i).1) {Post:dV->ah->Prop}
 (go:∀Z K,jv x a h K (aJ 0 a.X a.Y (.ac t2 1 (aF (bU x.bG))))->PB h K Z (fT x)->Post (.ret (.tuple [.agg (aJ 0 a.X a.Y (.ac t2 1 (aF (bU x.bG)))),T,L,Z,(aa:V),(aa:V)])) K)
 {t1:Tok} {e:Env} {H:ah} (hB:jv x a h H (aJ 0 a.X a.Y (.ac t2 1 (aF (bU x.bG))))) (g1:e.get 1=.ptr (.box h.I.length) 0) (g2:e.get 2=.ptr (.box (h.I.length+1)) 0) (g3:e.get 3=T) (g4:e.get 4=L) (g5:e.get 5=nl) (E:e.get 10=.ac t1 2 (bY (fA x.U x.bG))) (gd:e.defers=[]):
 bM SH (Code.tl 9 vI) e H (Bm Post):=by
 obtain⟨-,-,-,-,-,lW,-⟩:=rW D hB.vo;have hC:IL (.ac t2 1 (aF (bU x.bG))) (bU x.bG):=⟨_,_,rfl,λ_=>rfl⟩;have Fv:(di x).length=x.am.length:=by unfold di;simp
 have u:∀S i,SL S (C4 x i)->∀h,SH.call 30 [.agg (aJ 0 a.X a.Y (.ac t2 1 (aF (bU x.bG)))),T,L,im (al x.am i),S,im (x.eD.getD i (0,0)).1,im (x.eD.getD i (0,0)).2] h=J (.ret (.tuple [im (nG x i).1,im (nG x i).2]),h):=λS i hS=>
  pY (ai4 D.px D.py hC hT hL hS NJ af (by have:=aox x i;omega) 0 (al x.am i) (x.eD.getD i (0,0)).1 (x.eD.getD i (0,0)).2) rfl (by simp only[bE,aA,aJ];rfl)
 have B:=aj.mk z;clear z;have eW:=D.pw.dw;obtain⟨kw,sw,eqw,FG⟩:=D.pw;have m:=aj.mk (ar D FG);rw[eqw] at lW eW;have u23:=dp;have z3:=fa;have f59:=BV;have e_:=db x.am;have kgo:=aj.mk go;have kB:=aj.mk hB;have km:=aj.mk hm;have kc30:=aj.mk u;clear hT hL go hB hC FG D eqw hm u;have bK:=mD (ep:=0) m.M.1.px m.M.1.py (show IL (.ac t2 1 (aF (bU x.bG))) (bU x.bG) from⟨_,_,rfl,λ_=>rfl⟩);generalize hK:aJ 0 a.X a.Y (.ac t2 1 (aF (bU x.bG)))=r at *
 have lenK:r.length=4:=by rw[<-hK];rfl
 have G:=aj.mk (ar lenK bK);have kK:=aj.mk hK;clear hK lenK bK;unfold vI;simp only[Eh,vR,Code.tl];unfold im at *
 refine bD @gx ?_;refine cJ (λz2 e K=>∃(i:Nat) (Z:V),i<=x.am.length/\z2=x.am.length - i/\aj (jv x a h K r/\PB h K Z ((fT x).take i))/\
  e.get 1=.ptr (.box h.I.length) 0/\e.get 2=.ptr (.box (h.I.length+1)) 0/\e.get 3=T/\e.get 4=L/\e.get 5=Z/\e.get 10=.ac t1 2 (bY (fA x.U x.bG))/\e.get 193=.ac kw sw (aF x.am)/\e.get 194=(x.am.length:Nat)/\e.get 195=(i:Nat)/\e.defers=[]) ?_ x.am.length _ _ ?_
 rotate_left 1
 .refine⟨0,nl,cC _,rfl,⟨⟨kB.M,.inl ⟨rfl,rfl⟩⟩⟩,?_,?_,?_,?_,?_,?_,?_,?_,?_,?_⟩<;>first|(simp only[gW,reduceIte,aT,aN];done)|(exact gA)|(exact gR)
 clear g1 g2 g3 g4 g5 E gd lW eW kB;rintro z2 e K ⟨i,Z,hi,rfl,j,g1,g2,g3,g4,g5,E,g193,g194,g195,gd⟩;by_cases v:i<x.am.length;rotate_left 1
 .have gq:i=x.am.length:=by omega
  subst gq;have e1:(fT x).take x.am.length=fT x:=fK (by unfold fT;simp);have hP:=kgo.M Z K j.M.1 (by have:=j.M.2;rwa [e1] at this);have kP:=aj.mk hP;clear hP e1;have l27:aL ag Gt K 27 (.ptr (.box (h.I.length+1)) 0)=J (.agg r):=by rw[<-kK.M];exact yh (by rw[kK.M];exact j.M.1.key)
  have s27:b9 ag K 27 (.ptr (.box (h.I.length+1)) 0) (.agg r)=J K:=by rw[fI (off:=0) (cs:=r) (xs:=r) G.M.2 pW j.M.1.key G.M.1 (by have:=G.M.1;omega),vA (by have:=G.M.1;omega)];exact congrArg J (ju j.M.1.key)
  refine bD @gx ?_;exact⟨_,_,rfl,kP.M⟩
 have eM:sw=1:=m.M.2 (by intro n;rw[n] at v;simp at v);subst eM;have Pg:=eI (H:=K) (l:=x.am) (i:=i) (s:=1) v;have gG:(i:Int)<(x.am.length:Int):=by omega
 have nX:=sH (fA x.U x.bG);rw[EF] at nX;have u72:=Hu;have e72:dw ag 72 (.ac t1 2 (bY (fA x.U x.bG)))=J ((x.U.length:Nat):V):=by unfold dw;simp only[u72,nX]
 have kw2:aj (PB h K Z ((fT x).take i)/\dm 0 K .nil):=⟨⟨j.M.2,.inl rfl⟩⟩;refine bF @gx @bj ?_;obtain⟨ky,sy,eqy,j9⟩:=m.M.1.py;have ky1:=aj.mk (ar eqy j9);clear eqy j9;refine cJ (λz2 c d=>∃(b:Nat) (p:Tok) (o:Nat),b<=x.U.length/\z2=x.U.length - b/\aj (jv x a h d r/\PB h d Z ((fT x).take i)/\dm 0 d p)/\aj (o=2∨(oQ x.ae [al x.am i] ((fA x.U x.bG).take b)=[]/\p=.nil))/\
  c.get 1=.ptr (.box h.I.length) 0/\c.get 2=.ptr (.box (h.I.length+1)) 0/\c.get 3=T/\c.get 4=L/\c.get 5=Z/\c.get 10=.ac t1 2 (bY (fA x.U x.bG))/\c.get 193=.ac kw 1 (aF x.am)/\c.get 194=(x.am.length:Nat)/\c.get 195=(i:Nat)/\
  c.get 19=(i:Nat)/\c.get 20=al x.am i/\c.get 21=.ac p o (bY (oQ x.ae [al x.am i] ((fA x.U x.bG).take b)))/\c.get 200=.ac t1 2 (bY (fA x.U x.bG))/\c.get 201=(x.U.length:Nat)/\c.get 202=(b:Nat)/\c.defers=[]) ?_ x.U.length _ _ ?_
 rotate_left 1
 .refine⟨0,.nil,0,cC _,rfl,⟨⟨j.M.1,kw2.M⟩⟩,⟨.inr ⟨rfl,rfl⟩⟩,?_,?_,?_,?_,?_,?_,?_,?_,?_,?_,?_,?_,?_,?_,?_,?_⟩<;>first|(simp only[gW,reduceIte,aT,aN];done)|(exact gA)|(exact gR)
 clear g1 g2 g3 g4 g5 E g193 g194 g195 gd Pg j kw2 e72;rintro z2 c d ⟨b,p,o,hj,rfl,A,q,g1,g2,g3,g4,g5,E,g193,g194,g195,g19,g20,g21,g200,g201,g202,gd⟩;by_cases akn:b<x.U.length
 .obtain⟨z4,hr⟩:∃z4,x.U[b]?=J z4:=⟨_,aY akn⟩;have w:=MV (s:=x.bG) hr;generalize lj z4 x.bG=R at *
  have Pc:aL ag Gt d 110 (.elem 2 (bY (fA x.U x.bG)) b 0)=J (.agg (bI (((b:Nat):Int),R))):=Ym w;have stp:=avl (H:=d) (((b:Nat):Int),R);have zc:=axe;have lb:=amq (aU d (bI (((b:Nat):Int),R)));have l3:aL ag Gt (d.push (bI (((b:Nat):Int),R))) 3 (.ptr (.box d.I.length) 0)=J ((b:Nat):V):=by rw[fx eH (aU _ _)];rfl
  have g:=aj.mk (ar (A.M.1.push (bI (((b:Nat):Int),R))) (ar (A.M.2.1.push (bI (((b:Nat):Int),R))) (show dm 0 (d.push (bI (((b:Nat):Int),R))) p by rw[tj];exact A.M.2.2)));have lo:=(rW m.M.1 g.M.1.vo).2.2.1;rw[ky1.M.1] at lo;have akV:sy=1:=ky1.M.2 (by intro n;have z:=B.M;rw[n] at z;have z1:x.U.length=0:=z;omega);rw[akV] at lo;have ldo:=eI (H:=d.push (bI (((b:Nat):Int),R))) (l:=x.ae) (i:=b) (s:=1) (by have:=B.M;omega);have Cl:=db x.ae;have f81:=aip;have Fj:(b:Int)<(x.U.length:Int):=by omega
  have hjO:(b:Int)<(x.ae.length:Int):=by have:=B.M;omega
  have z110:=GH;have f:=aoc (ae:=x.ae) (am:=[al x.am i]) w;have epk:ys x.ae [al x.am i] (((b:Nat):Int),R)=if al x.am i=al x.ae b then [(((b:Nat):Int),R)] else []:=by
   unfold ys;by_cases n:al x.am i=al x.ae b
   .rw[aH n];simp[n]
   .rw[aV n];simp[n]
  rw[epk] at f;have qu:(oQ x.ae [al x.am i] ((fA x.U x.bG).take b)).length<=12:=by have:=PP (ae:=x.ae) (am:=[al x.am i]) ((fA x.U x.bG).take b);rw[dJ] at this;simp at this;omega
  have ap:=HB (T:=72) (es:=bY (oQ x.ae [al x.am i] ((fA x.U x.bG).take b))) (r:=bI (((b:Nat):Int),R)) u72 OV bm (by rw[sH];omega) (q.M.imp id λn=>⟨by rw[n.1];rfl,n.2⟩) g.M.2.2;rw[aaS] at ap;have bl:=afz (((b:Nat):Int),R);have kA:=aj.mk (ar (g.M.1.app g.M.2.2) (ar (g.M.2.1.app p) (Ud g.M.1 g.M.2.2)));clear w hr epk;by_cases n:al x.am i=al x.ae b
  .rw[aH n] at f;rw[<-f] at ap;have dq:decide (al x.ae b=al x.am i)=aa:=cD n.symm;have kq:=aj.mk n;clear n f;generalize bY (oQ x.ae [al x.am i] ((fA x.U x.bG).take b))=E0 at *
   generalize bI (((b:Nat):Int),R)=SR at *
   generalize bI (0,0)=S0 at *
   unfold im at *
   refine dA @gx @fE @bj ?_;exact⟨x.U.length - (b+1),by omega,b+1,_,2,by omega,rfl,kA,⟨.inl rfl⟩,by simp⟩
  .rw[aV n,List.append_nil] at f;have dq:decide (al x.ae b=al x.am i)=au:=cR λz1=>n z1.symm;have ksz3:aj (o=2∨(oQ x.ae [al x.am i] ((fA x.U x.bG).take (b+1))=[]/\p=.nil)):=⟨by rw[f];exact q.M⟩;have ke:=aj.mk f;clear n f ap bl kA;generalize bI (((b:Nat):Int),R)=SR at *
   generalize bI (0,0)=S0 at *
   unfold im at *
   refine dA @gx @fE @bj ?_;exact⟨x.U.length - (b+1),by omega,b+1,p,o,by omega,rfl,g,ksz3,by rw[ke.M];simp⟩
 .have oJ:b=x.U.length:=by omega
  subst oJ;have e1:(fA x.U x.bG).take x.U.length=fA x.U x.bG:=fK (by rw[EF];exact bh _);rw[e1] at g21 q;have hS:SL (.ac p o (bY (oQ x.ae [al x.am i] (fA x.U x.bG)))) (C4 x i):=⟨p,o,rfl,λn=>by
   rcases q.M with z1|⟨z1,-⟩
   .exact z1
   .exact absurd z1 n⟩
  have u:=kc30.M _ i hS;clear hS e1;have u57:=Mh;have u33:=uC;have z108:cQ ag 108=J 2:=by kernel_rfl
  obtain⟨z0,w⟩:∃z0,x.eD[i]?=J z0:=⟨_,aY af⟩;obtain⟨ku,su,equ,FE⟩:=m.M.1.pu;have lU:=(rW m.M.1 A.M.1.vo).2.2.2.2.2.2;rw[equ] at lU;have Xr:su=2:=FE (by intro n;rw[n] at wp;simp at wp;omega);rw[Xr] at lU;have il:=ak9;have b48:=aeR;have n0:aL ag Gt d 3 (.elem 2 (bY x.eD) i 0)=J ((z0.1:Int):V):=by rw[ru eH (row:=bI z0) (by unfold bY;rw[eF,w];rfl)];rfl
  have n1:aL ag Gt d 3 (.elem 2 (bY x.eD) i 1)=J ((z0.2:Int):V):=by rw[ru eH (row:=bI z0) (by unfold bY;rw[eF,w];rfl)];rfl
  have e2:x.eD.getD i (0,0)=z0:=by rw[fg,w];rfl
  rw[e2] at u;have XB:=sH x.eD;have ako:(i:Int)<(x.eD.length:Int):=by omega
  have l27:aL ag Gt d 27 (.ptr (.box (h.I.length+1)) 0)=J (.agg r):=by rw[<-kK.M];exact yh (by rw[kK.M];exact A.M.1.key)
  have kmi:=km.M i v;rw[kmi.1] at u;have hz:=kmi.2;obtain⟨Z',K2,tp,pb,bg⟩:=av2 A.M.1 A.M.2.1 (by rw[dJ];omega) (bk.mp A.M.1.key).1 (al x.am i,(nG x i).1);rw[<-ga (aoW v)] at pb;have bl:fC ag 33 1 [(0,.agg [(al x.am i:V),(((nG x i).1:Int):V)])]=J (.ac .aP 2 [bI (al x.am i,(nG x i).1)]):=afx (al x.am i,(nG x i).1);have kA:=aj.mk (ar bg pb);clear w e2 km kmi FE equ Xr kc30 bg pb;generalize bI (al x.am i,(nG x i).1)=SR at *
  generalize (nG x i).1=z1 at *
  have Ji:¬z1<0:=by have:=hz.1;omega
  have qA:¬(1073741789:Int)<=z1:=by have:=hz.2;simp only[Qi] at this;omega
  clear hz;generalize al x.am i=wi at *
  generalize z0.1=p1 at *
  generalize z0.2=p2 at *
  generalize bY (oQ x.ae [wi] (fA x.U x.bG))=E0 at *
  unfold im at *
  refine bD @gx ?_;refine dW rH bX ?_;refine bF @gx @bj ?_;exact⟨x.am.length - (i+1),by omega,i+1,Z',by omega,rfl,kA,by simp⟩
def oF(l:List (Int × Int)):List Int:=l.flatMap λb=>[b.1,b.2]
def aiB(l):F (oF l)=2*F l:=by
 unfold oF
 induction l with
 |nil=>rfl|cons c l b=>rw[List.flatMap_cons,de,b,eZ];simp only[eZ,gi];omega
def zG:∀(l:List (Int × Int)) (i:Nat),al (oF l) (2*i)=(l.getD i (0,0)).1/\al (oF l) (2*i+1)=(l.getD i (0,0)).2
 | [],i=>by simp[oF,al]
 |p::l,0=>⟨O,O⟩
 |p::l,i+1=>zG l i
def aiC{l}(h:∀n∈l,AD n):∀z∈oF l,okF z:=by
 intro z b;unfold oF at b;obtain⟨n,c,b⟩:=List.mem_flatMap.1 b;simp only[hh,qR,or_false]at b;rcases b with rfl|rfl
 .exact(h n c).1
 .exact(h n c).2
def adM{U}{ae am y}(h:fm U ae am=(y,aa,0))(f:0<cr U):am≠[]:=by
 rintro rfl;obtain⟨-,-,-,-,d,e⟩:=xw h;have:=e 0 f;have g:((bT (F U)).map λc=>al y c*al (U.getD c []) 0)=(bT (F U)).map λ_=>0:=yN λc _=>by rw[d c cE,Int.zero_mul]
 have i:∀L:List Nat,cU (L.map λ_=>(0:Int))=0:=by
  intro L
  induction L with
  |nil=>rfl|cons a L b=>rw[dR];simp[cU]at b ⊢;try exact b
 rw[g,i]at this;exact absurd this bm
def YX{c:Ce}(h:c.eC=0):cI c.U c.ae=0/\(∃y,fm c.U c.ae c.am=(y,aa,0))/\F c.av=cr c.U:=by
 unfold Ce.eC NT.eC at h;split at h
 .rename_i g;exact absurd h g
 .rename_i f;split at h
  .exact absurd h bm
  .rename_i d;split at h
   .exact absurd h bm
   .split at h
    .exact absurd h bm
    .split at h
     .exact absurd h bm
     .rename_i b;refine⟨by simpa using f,?_,by simp at d;exact d.2.2.2⟩;rcases e:fm c.U c.ae c.am with⟨y,i,j⟩;rw[e]at b;simp at b;exact⟨y,by rw[b.1,b.2]⟩
def ao9{x}(e:∀n∈x.eD,AD n)(c:F x.eD=F x.am):oZ x.am (oF x.eD) (di x):=by
 refine⟨by unfold di;simp,by rw[aiB,c],aiC e,λf d=>⟨0,by decide,by decide,?_⟩⟩;rw[Zt d,(zG x.eD f).1,(zG x.eD f).2];have b:cq 4=aa:=by decide
 unfold yr mZ;rw[tD b,tD b];rfl
def US{d}(h:g_ d=aa)(b:F d.tx=32):F (cH (gg d))<=1000:=by unfold g_ iu at h;simp only[bQ,decide_eq_true_eq]at h;exact MZ af af af b
def apa{x}(m:∀n∈x.eD,AD n)(f:F x.eD=F x.am)(q:F x.am<=8)(e:x.dk.eC=0)(p:F x.doc.tx=32)(o:0<F x.bG):
 ∃y,ut x.U x.ae x.am (oF x.eD) x.bG y (di x) (cH (gg x.doc)) 0:=by
 obtain⟨r,⟨y,b⟩,g⟩:=YX e;have j:F x.bG=cr x.U:=by have i:F (bU x.bG)=cr x.U:=g;rw[<-i];unfold bU;rw[bJ]
 have u:F (cH (gg x.doc))<=1000:=US (d:=x.doc) (CT (c:=x.dk) e) p;exact⟨y,ao9 m f,b,adM b (by show 0<cr x.U;omega),by omega,by omega,by decide,j⟩
def anj{x}{y}(b:F x.U=F x.ae)(c:ut x.U x.ae x.am (oF x.eD) x.bG y (di x) (cH (gg x.doc)) 0){i}(hi:i<F x.am):(nG x i).2=0/\okF (nG x i).1:=by have:=UG c.tu c.acc c.ne c.wl c.tl c.ep c.sl hi;rw[(zG x.eD i).1,(zG x.eD i).2,<-Zl b]at this;unfold nG C4;rw[this];exact⟨O,Zw⟩
structure Used(x:jg)(a:PA)(t2:Tok)(T L:V)(y:List Int):Prop where
 tu:ut x.U x.ae x.am (oF x.eD) x.bG y (di x) (cH (gg x.doc)) 0
 new:x.dk.eC=0
 wX:BL T (cH (gg x.doc))
 held:aA T=T
 ZQ:PL L (di x)
 len:x.eD.length=x.am.length
 GT:x.am.length<=8
 asf:x.U.length<=12
 anW:x.bG.length<=12
def RH(x:jg)(a:PA)(h:ah)(r:dV)(K:ah):Prop:=
 vW r∨∃t2 T L y b,Used x a t2 T L y/\jv x a h K (aJ 0 a.X a.Y (.ac t2 1 (aF (bU x.bG))))/\PB h K b (fT x)/\r=.ret (.tuple [.agg (aJ 0 a.X a.Y (.ac t2 1 (aF (bU x.bG)))),T,L,b,(aa:V),(aa:V)])
def aeZ(h:ah)(R:du h=aa){x:jg}{a:PA}(b:mT x a)(o:x.doc.oY):∃r h',SH.call 23 [.agg (hY x a)] h=J (r,h')/\RH x a h r h':=by
 obtain⟨z0,hb,c⟩:=ai2 b.px b.py;have c:=pY c O (show bE [.agg [a.X,a.Y]]=[.agg [aA a.X,aA a.Y]] from O);have u:z0=aa->∀h,SH.call 40 [.agg [a.X,a.Y]] h=J (.ret (im (cI x.U x.ae)),h):=λq=>pY (ai5 b.px b.py (by have:=(hb q).1;omega)) O (show bE [.agg [a.X,a.Y]]=[.agg [aA a.X,aA a.Y]] from O);rcases aez z0 (cI x.U x.ae) x with q|q
 .obtain⟨r,h',e1,e2⟩:=ae0 h b c u q;exact⟨r,h',e1,.inl e2⟩
 have p:∀r K,vW r->RH x a h r K:=λr K z3=>.inl z3;refine ae2 h R b c (u q.EL) q p λhn z1 H n d f g i j m=>?_;have A:0<F x.bG:=by have h1:=(pm q.prog).1;rw[MR q.ui]at h1;have:=q.nums;omega
 have v:F (bU x.bG)<=1000000:=by unfold bU;rw[bJ,q.nums];have:=q.uL;omega
 refine ae3 h b q o hn p (λz hk t1 t2 z1 H n d f g i j e m=>?_) n d f g i j m;refine ae4 h b o q.am q.eD v (by have:=q.yw;omega) z p (λhN T E G L z1 K D n d f g i j {t1} e m=>?_) n d f g i j e m;obtain⟨y,B⟩:=apa hN q.eD q.am z b.pd.t A;have w:=(pD q.prog).1;refine ae5 h b q.am q.eD v q.yw w E D (λz4 hi=>anj w B hi) (λz2 K Z pb=>.inr ⟨t2,T,L,y,z2,⟨B,z,E,G,D,q.eD,q.am,q.yw,by have:=q.uL;have:=q.nums;omega⟩,Z,pb,O⟩) n d f g i j e m
def FX{c:Ce}(h:c.eC=0):dL (-1) c.am=aa:=by
 unfold Ce.eC NT.eC at h;split at h
 .rename_i b;exact absurd h b
 .split at h
  .exact absurd h bm
  .split at h
   .exact absurd h bm
   .split at h
    .exact absurd h bm
    .rename_i b;simpa using b
def PY{α}{right}{k}:∀{am:List Int} {b:Int} {f:Nat->α},dL b am=aa->(∀i,i<F am->right (f i)=aa/\k (f i)=al am i)->fH right k b ((bT (F am)).map f)=aa
 | [],_,_,_,_=>rfl
 |n::l,b,f,h,c=>by unfold dL at h;simp only[bQ,decide_eq_true_eq]at h;obtain⟨d,e⟩:=c 0 (Nat.succ_pos _);have g:k (f 0)=n:=e;rw[eZ,List.range_succ_eq_map,dR,xn,yp,g];exact⟨d,h.1.1,PY h.2 λi j=>c (i+1) (Nat.succ_lt_succ j)⟩
def YK{l:List Int}{i}(h:i<F l):l.contains (al l i)=aa:=List.elem_eq_true_of_mem (Eu h)
def UP{d}(h:g_ d=aa):F d.pa<=16/\F d.rv<=16/\F d.nd<=16:=by unfold g_ iu at h;simp only[bQ,decide_eq_true_eq]at h;omega
section
variable {x:jg} {a:PA} {t2:Tok} {T L:V} {y:List Int}
def anl{i:Nat}(b:F x.U=F x.ae)(c:ut x.U x.ae x.am (oF x.eD) x.bG y (di x) (cH (gg x.doc)) 0)(hi:i<F x.am):
 nG x i=(F5 x.U x.ae x.bG x.am (oF x.eD) (di x) (cH (gg x.doc)) i,0):=by
 have:=UG c.tu c.acc c.ne c.wl c.tl c.ep c.sl hi;unfold F5;rw[(zG x.eD i).1,(zG x.eD i).2,<-Zl b]at this ⊢;exact this
def Used.prog(u:Used x a t2 T L y):cI x.U x.ae=0:=(YX (c:=x.dk) u.new).1
def Used.part(u:Used x a t2 T L y){i:Nat}(hi:i<F x.am):nG x i=(F5 x.U x.ae x.bG x.am (oF x.eD) (di x) (cH (gg x.doc)) i,0):=anl (pD u.prog).1 u.tu hi
def Used.bO(u:Used x a t2 T L y):fH (oS x.am) Pr.bN (-1) (di x)=aa:=by refine PY (FX (c:=x.dk) u.new) λd b=>⟨?_,O⟩;show(x.am.contains (al x.am d)&&decide ((0:Int)<=0)&&decide ((0:Int)<4096)&&cq (eR 4 _)&&cq (eR 4 _))=aa;rw[YK b,v9 tv,v9 tv];rfl
def alg{v}(h:okF v):cG v=aa:=by unfold cG;simp[h.1,h.2]
def Used.aW(u:Used x a t2 T L y){f:Nat->Int}(d:∀i,i<F x.am->okF (f i)):fH (oT x.am) jz (-1) ((bT (F x.am)).map λi=>(al x.am i,f i))=aa:=
 PY (FX (c:=x.dk) u.new) λi b=>⟨by show(x.am.contains (al x.am i)&&cG (f i))=aa;rw[YK b,alg (d i b)];rfl,O⟩
def Used.snd(u:Used x a t2 T L y):(fT x).map nr=tZ x.U x.ae x.bG x.am (oF x.eD) (di x) (cH (gg x.doc)):=by unfold fT tZ;rw[xn];exact yN λc b=>by show(nG x c).1=_;rw[u.part (List.mem_range.1 b)]
def C8:F (di x)=F x.am:=by unfold di;simp
def JN:F (fT x)=F x.am:=by unfold fT;simp
def Used.fit(u:Used x a t2 T L y){l:List Pr}{z:List (Int × Int)}(b:F l<=1000000)(d:F z<=1000000):Ce.Fit {x.dk with bO:=l,aW:=z}:=by have e:=UP (CT (c:=x.dk) u.new);have e:F x.doc.pa<=16/\F x.doc.rv<=16/\F x.doc.nd<=16:=e;have:=u.asf;have:=u.GT;have:=u.anW;exact⟨by show F x.U<=_;omega,by show(F (bU x.bG))<=_;unfold bU;rw[bJ];omega,by show F x.am<=_;omega,⟨by show F x.doc.pa<=_;omega,by show F x.doc.rv<=_;omega,by show F x.doc.nd<=_;omega⟩,b,d⟩
def Used.short(u:Used x a t2 T L y){l:List Pr}{z:List (Int × Int)}(b:F l<=1000000)(d:F z<=1000000):Md {x.dk with bO:=l,aW:=z}:=by have i:=UP (CT (c:=x.dk) u.new);have i:F x.doc.pa<=16/\F x.doc.rv<=16/\F x.doc.nd<=16:=i;have e:=u.fit b d;obtain⟨j,-,g,-⟩:=pD u.prog;refine⟨e.1,by show F x.ae<=_;have:F x.U<=_:=e.1;omega,λm f=>by have:=(g m f).2.2.1;omega,e.2.1,⟨by show F x.doc.pa<=_;omega,by show F x.doc.rv<=_;omega,by show F x.doc.nd<=_;omega⟩,e.2.2.1,b,d⟩
def Used.right(u:Used x a t2 T L y){z:List (Int × Int)}(b:fH (oT x.am) jz (-1) z=aa):gQ {x.dk with bO:=di x,aW:=z}=0:=
 EA.2 ⟨u.new,u.bO,b,λ_=>C8⟩
def Used.comb(u:Used x a t2 T L y):jo x.U x.ae 0 (bU x.bG) (cH (gg x.doc)) (di x) ((fT x).map nr)=
 ((((ft (al (bU x.bG) 0) (cH (gg x.doc)) (di x):Nat):Int),(tZ x.U x.ae x.bG x.am (oF x.eD) (di x) (cH (gg x.doc))).foldl cX 0),aa,0):=by
 rw[u.snd];exact u.tu.comb
end
def Dh:o_.results.toList=[.tmp 6]:=by kernel_rfl
noncomputable def B5:Code:=o_.body.getD .skip
def F7{K}{D}(c:RJ D):∃b,Old K b/\b.I[F K.I]?=J D/\b9 ag (K.push (aD c0 a0)) 35 (.ptr (.box (F K.I)) 0) (.agg D)=J b:=⟨K.push D,(Old.refl K).push D,aU _ _,sJ c.len c.cells⟩
def YZ:BL (.ac .nil 0 []) []:=⟨.nil,0,O,λb=>absurd O b⟩
section
variable {x:jg} {a:PA} {t2:Tok} {T L:V} {y:List Int}
structure adh(x:jg)(a:PA)(t2:Tok)(L ob:V)(K1:ah) where
 A0:CA
 a1:CA
 a2:CA
 K2:ah
 K3:ah
 K4:ah
 K5:ah
 K6:ah
 on:c_ x.dk A0
 Ew:∀h,SH.call 11 [.agg (aJ 0 a.X a.Y (.ac t2 1 (aF (bU x.bG)))),.agg (bH x.doc a.p a.r a.n),a.W] h=J (.ret (.tuple [.agg (aD x.dk A0),im 0]),h)
 s2:b9 ag (K1.push (aD c0 a0)) 35 (.ptr (.box K1.I.length) 0) (.agg (aD x.dk A0))=J K2
 q2:K2.I[K1.I.length]?=J (aD x.dk A0)
 TS:SH.call 24 [.agg (aD x.dk A0),L,ob,.func (.func 16) [] []] K2=J (.ret (.tuple [.agg (aD {x.dk with bO:=di x} a1),(aa:V)]),K3)
 s4:b9 ag (K3.push (aD c0 a0)) 35 (.ptr (.box K3.I.length) 0) (.agg (aD {x.dk with bO:=di x} a1))=J K4
 q4:K4.I[K1.I.length]?=J (aD x.dk A0)
 TT:SH.call 24 [.agg (aD x.dk A0),L,.ac .nil 0 [],.func (.func 16) [] []] K4=J (.ret (.tuple [.agg (aD {x.dk with bO:=di x} a2),(aa:V)]),K5)
 s6:b9 ag (K5.push (aD c0 a0)) 35 (.ptr (.box K5.I.length) 0) (.agg (aD {x.dk with bO:=di x} a2))=J K6
 fG:Old K1 K6
 q5:K6.I[K3.I.length]?=J (aD {x.dk with bO:=di x} a1)
 q6:K6.I[K5.I.length]?=J (aD {x.dk with bO:=di x} a2)
 w1:c_ {x.dk with bO:=di x} a1
 w2:c_ {x.dk with bO:=di x} a2
 h1:dS a1
 h2:dS a2
 n1:j8 a1
 n2:j8 a2
def Used.agv(u:Used x a t2 T L y)(g:mT x a):∃c,c_ x.dk c/\dS c/\j8 c/\∀h,SH.call 11 [.agg (aJ 0 a.X a.Y (.ac t2 1 (aF (bU x.bG)))),.agg (bH x.doc a.p a.r a.n),a.W] h=J (.ret (.tuple [.agg (aD x.dk c),im 0]),h):=by
 have f:jI x.dk=x.dk:=by unfold jI;rw[aH u.new];rfl
 have d:=Nu (g.ce t2);have e:=yn d;have f0:x.dk.Fit:=u.fit (l:=[]) (z:=[]) (cC _) (cC _);have b:=pY (ET d (Is _) f0) O (show bE [.agg (aJ 0 a.X a.Y (.ac t2 1 (aF (bU x.bG)))),.agg (bH x.doc a.p a.r a.n),a.W]=_ by simp only[bE,aA,xF,aJ];rfl);rw[f]at e b;rw[u.new]at b;exact⟨_,e,PI (Is _),anP,b⟩
def Used.ne(u:Used x a t2 T L y):0<F x.am:=Bd.2 u.tu.ne
theorem Used.at1(u:Used x a t2 T L y)(ok:mT x a){b:List UInt8}{i:V}(hO:BL i b)(ho:F b<=30)(K1:ah):Nonempty (adh x a t2 L i K1):=by
 obtain⟨f,c,r,v,p⟩:=u.agv ok;have f0:x.dk.Fit:=u.fit (l:=[]) (z:=[]) (cC _) (cC _);have d:F (di x)<=8:=by rw[C8];exact u.GT
 have e:di x≠[]:=by intro z0;have z1:=C8 (x:=x);rw[z0,gi]at z1;have:=u.ne;omega
 obtain⟨j,o2,G,s2⟩:=F7 (K:=K1) (Ez c);obtain⟨_,m,q,w,a1,R,n1,h1,rfl⟩:=aaL j x.dk f c r v f0 u.new O O (di x) L u.ZQ b i hO ho d e u.bO;obtain⟨n,A,q4,s4⟩:=F7 (K:=m) (Ez R);obtain⟨_,o,g,B,a2,Z,n2,h2,rfl⟩:=aaL n x.dk f c r v f0 u.new O O (di x) L u.ZQ [] (.ac .nil 0 []) YZ (cC _) d e u.bO;obtain⟨K6,E,q6,s6⟩:=F7 (K:=o) (Ez Z);exact⟨⟨f,a1,a2,j,m,n,o,K6,c,p,s2,G,q,s4,A _ _ (w _ _ G),g,s6,λ_ _ z0=>E _ _ (B _ _ (A _ _ (w _ _ (o2 _ _ z0)))),E _ _ (B _ _ q4),q6,R,Z,h1,h2,n1,n2⟩⟩
structure adi(x:jg)(T:V)(bz:Nat)(ob:V)(K6:ah)(a1 a2:CA)(b1 b2:Nat) where
 a3:CA
 a4:CA
 s1:Int
 s2:Int
 K7:ah
 K8:ah
 K9:ah
 DU:ah
 TU:SH.call 25 [.agg (aD {x.dk with bO:=di x} a1),.arr bz 0 (fT x).length (fT x).length,ob,.func (.func 18) [] []] K6=J (.ret (.tuple [.agg (aD {x.dk with bO:=di x,aW:=fT x} a3),(aa:V)]),K7)
 s8:b9 ag (K7.push (aD c0 a0)) 35 (.ptr (.box K7.I.length) 0) (.agg (aD {x.dk with bO:=di x,aW:=fT x} a3))=J K8
 l8:aL ag Gt K8 35 (.ptr (.box b2) 0)=J (.agg (aD {x.dk with bO:=di x} a2))
 axJ:SH.call 25 [.agg (aD {x.dk with bO:=di x} a2),.arr bz 0 (fT x).length (fT x).length,.ac .nil 0 [],.func (.func 18) [] []] K8=J (.ret (.tuple [.agg (aD {x.dk with bO:=di x,aW:=fT x} a4),(aa:V)]),K9)
 yy:b9 ag (K9.push (aD c0 a0)) 35 (.ptr (.box K9.I.length) 0) (.agg (aD {x.dk with bO:=di x,aW:=fT x} a4))=J DU
 O8:aL ag Gt DU 35 (.ptr (.box K7.I.length) 0)=J (.agg (aD {x.dk with bO:=di x,aW:=fT x} a3))
 c20:∀h,SH.call 20 [.agg (aD {x.dk with bO:=di x,aW:=fT x} a3)] h=J (.ret (.tuple [.agg [im s1,im s2],.ac .nil 0 [],(aa:V),im 0]),h)
 Yb:∀cs,aL ag Gt (DU.push cs) 35 (.ptr (.box K7.I.length) 0)=J (.agg (aD {x.dk with bO:=di x,aW:=fT x} a3))
 m11:∀cs,aL ag Gt (DU.push cs) 35 (.ptr (.box K9.I.length) 0)=J (.agg (aD {x.dk with bO:=di x,aW:=fT x} a4))
 HL:∀h,SH.call 13 [.agg (aD {x.dk with bO:=di x,aW:=fT x} a3),.agg (aD {x.dk with bO:=di x,aW:=fT x} a4)] h=J (.ret (aa:V),h)
 fG:Old K6 DU
 c26:∀h,SH.call 26 [im (al (bU x.bG) 0),T,.agg [im s1,im s2]] h=J (.ret (aa:V),h)
 same:dh (.agg (aD {x.dk with bO:=di x,aW:=fT x} a3)) (.agg (aD {x.dk with bO:=di x,aW:=fT x} a3))=aa/\dh (.agg (aD {x.dk with bO:=di x,aW:=fT x} a4)) (.agg (aD {x.dk with bO:=di x,aW:=fT x} a4))=aa
def Used.txl(u:Used x a t2 T L y)(b:mT x a):F (cH (gg x.doc))<=1000:=US (d:=x.doc) (CT (c:=x.dk) u.new) b.pd.t
theorem Used.at2(u:Used x a t2 T L y)(ok:mT x a){i:List UInt8}{D:V}(hO:BL D i)(ho:F i<=30){j:ah}{bz b1 Z:Nat}{g d:CA}(w1:c_ {x.dk with bO:=di x} g)(w2:c_ {x.dk with bO:=di x} d)(h1:dS g)(h2:dS d)(n1:j8 g)(n2:j8 d)
 (q2:j.I[Z]?=J (aD {x.dk with bO:=di x} d)) (hb:j.I[bz]?=J (bY (fT x)).flatten):Nonempty (adi x T bz D j g d b1 Z):=by
 have b:fH (oT x.am) jz (-1) (fT x)=aa:=u.aW (f:=λz0=>(nG x z0).1) λz0 hi=>by rw[u.part hi];exact Zv z0
 have pd:Ma {x.dk with bO:=di x}:=⟨u.new,u.bO,C8⟩;have hp8:F (di x)<=8:=by rw[C8];exact u.GT
 have o:F (fT x)<=8:=by rw[JN];exact u.GT
 have p:fT x≠[]:=by intro z1;have z3:=JN (x:=x);rw[z1,gi]at z3;have:=u.ne;omega
 have f2:Ce.Fit {x.dk with bO:=di x}:=u.fit (l:=di x) (z:=[]) af (cC _);have f3:Ce.Fit {x.dk with bO:=di x,aW:=fT x}:=u.fit (l:=di x) (z:=fT x) af af;obtain⟨_,v,TU,A,R,e,n3,h3,rfl⟩:=aaM j {x.dk with bO:=di x} g w1 h1 n1 f2 pd O (fT x) hb i D hO ho o p b;obtain⟨E,B,q8,s8⟩:=F7 (K:=v) (Ez e);obtain⟨_,G,w,o9,a4,m,n4,h4,rfl⟩:=aaM E {x.dk with bO:=di x} d w2 h2 n2 f2 pd O (fT x) (B _ _ (A _ _ hb)) [] (.ac .nil 0 []) YZ (cC _) o p b;obtain⟨n,q,q10,yy⟩:=F7 (K:=G) (Ez m);have hl:¬F (fT x)<F x.am:=by rw[JN];omega
 have cd:=Vw (c:={x.dk with bO:=di x,aW:=fT x}) e h3 f3 (u.right b) hl (fB (u.txl ok) bm) (CT (c:=x.dk) u.new) u.comb;have r:=Vx e h3 m h4 (u.short (l:=di x) (z:=fT x) af af);have t10:n.I[F v.I]?=J (aD {x.dk with bO:=di x,aW:=fT x} R):=q _ _ (o9 _ _ q8);have z2:=ai9 u.wX (fB (u.txl ok) bm) (al (bU x.bG) 0) (((ft (al (bU x.bG) 0) (cH (gg x.doc)) (di x):Nat):Int)) ((tZ x.U x.ae x.bG x.am (oF x.eD) (di x) (cH (gg x.doc))).foldl cX 0);rw[u.tu.Kw,u.held]at z2;exact⟨⟨R,a4,_,_,v,E,G,n,TU,s8,iJ w2.len (B _ _ (A _ _ q2)),w,yy,iJ e.len t10,pY cd O cd.held,λcs=>iJ e.len (aX t10),λcs=>iJ m.len (aX q10),pY r O r.held,λ_ _ z1=>q _ _ (o9 _ _ (B _ _ (A _ _ z1))),pY z2 O z2.held,Gv e,Gv m⟩⟩
end
def amj(h:ah)(fR:du h=aa)(x:jg)(a:PA)(b:mT x a)(d:x.doc.oY)(o th:List UInt8)(z2 O2:V)(q:BL z2 o)(e:BL O2 th):
 ∃r h',SH.call 5 [.agg (hY x a),z2,O2] h=J (r,h')/\r=.ret (aa:V):=by
 have cs:=atS;have bx:=b.cells;have l0:=amo b (aU h (hY x a));obtain⟨_,K,c23,bg⟩:=aeZ (h.push (hY x a)) fR b d;have z27:=GU;rcases bg with⟨X,Y,C,U,ae,av,px,py,pc,rfl⟩|⟨t2,T,L,y,z5,z0,n,pb,rfl⟩
 .have s27:b9 ag (K.push (aJ 0 nl nl nl)) 27 (.ptr (.box (F K.I)) 0) (.agg (aJ 0 X Y C))=J (K.push (aJ 0 X Y C)):=j3 (mD px py pc) pW O O;clear px py pc b d q e;generalize hY x a=z1 at *
  generalize aJ 0 nl nl nl=Z0 at *
  generalize aJ 0 X Y C=KY at *
  refine cA O yU O ?_;refine bF @Dh @bC ?_;exact⟨_,_,O,O⟩
 have lO:=q.dw;have lO2:=e.dw;have bK:=mD (ep:=0) b.px b.py (show IL (.ac t2 1 (aF (bU x.bG))) (bU x.bG) from⟨_,_,O,λ_=>rfl⟩);obtain⟨p,g⟩:∃p,K.push (aJ 0 a.X a.Y (.ac t2 1 (aF (bU x.bG))))=p:=⟨_,O⟩;have s27:b9 Tryz.prog (K.push (aJ 0 nl nl nl)) 27 (.ptr (.box (List.length K.I)) 0) (.agg (aJ 0 a.X a.Y (.ac t2 1 (aF (bU x.bG)))))=some p:=by rw[<-g];exact j3 bK pW O O
 by_cases A:¬F o<=30
 .have d1:(30:Int)<(F o:Int):=by omega
  clear z0 n pb bK b d q e A;generalize hY x a=z1 at *
  generalize aJ 0 nl nl nl=Z0 at *
  generalize aJ 0 a.X a.Y (.ac t2 1 (aF (bU x.bG)))=KY at *
  refine cA O yU O ?_;refine bF @Dh @bC ?_;exact⟨_,_,O,O⟩
 have d1:¬((30:Int)<(F o:Int)):=by omega
 by_cases dD:¬F th<=30
 .have d2:(30:Int)<(F th:Int):=by omega
  clear z0 n pb bK b d q e A dD;generalize hY x a=z1 at *
  generalize aJ 0 nl nl nl=Z0 at *
  generalize aJ 0 a.X a.Y (.ac t2 1 (aF (bU x.bG)))=KY at *
  refine cA O yU O ?_;refine bF @Dh @bC ?_;exact⟨_,_,O,O⟩
 have d2:¬((30:Int)<(F th:Int)):=by omega
 rcases pb with⟨hz,-⟩|⟨bz,-,-,rfl,Wh⟩
 .exact absurd (congrArg F hz) (by rw[JN,gi];have:=z0.ne;omega)
 obtain⟨⟨A0,a1,a2,K2,K3,K4,K5,K6,on,Ew,s2,q2,TS,s4,q4,TT,s6,R,q5,q6,w1,w2,h1,h2,n1,n2⟩⟩:=z0.at1 b q af p;obtain⟨⟨a3,a4,v1,v2,K7,K8,K9,c,v,s8,m8,m,yy,E,u,D,G,j,Z,w,e3,e4⟩⟩:=z0.at2 (b1:=K3.I.length) b e af w1 w2 h1 h2 n1 n2 q6 (R _ _ (by rw[<-g];exact aX Wh));have q1:p.I[F K.I]?=J (aJ 0 a.X a.Y (.ac t2 1 (aF (bU x.bG)))):=by rw[<-g];exact aU _ _
 have p1:p.I[F h.I]?=J (hY x a):=by rw[<-g];exact aX (n.fG _ _ (aU _ _))
 have l1:=yh q1;obtain⟨-,-,-,-,l2,l3,-⟩:=rW b p1;have f59:=BV;have l4:=iJ on.len q2;have l5:=iJ on.len q4;have l6:=iJ w1.len q5;have l7:=iJ w2.len q6;have q13:=Vx w1 h1 w2 h2 (z0.short (z:=[]) (by rw[C8];have:=z0.GT;omega) (cC _));have HL:=pY q13 O q13.held;have q11:c.I[F K.I]?=J (aJ 0 a.X a.Y (.ac t2 1 (aF (bU x.bG)))):=Z _ _ (R _ _ q1);have fw:0<F (bU x.bG):=by
  have:F (bU x.bG)=cr x.U:=by unfold bU;rw[bJ];exact z0.tu.sl
  rw[this];exact(pm z0.prog).1
 have l8:aL ag Gt (c.push [im v1,im v2]) 23 (.ptr (.box (F K.I)) 3)=J (.ac t2 1 (aF (bU x.bG))):=by rw[fx mV (aX q11)];rfl
 have l9:=eI (H:=c.push [im v1,im v2]) (l:=bU x.bG) (i:=0) (s:=1) fw;have B:=yj (aU c [im v1,im v2]);have s11:b9 ag (c.push [im 0,im 0]) 52 (.ptr (.box (F c.I)) 0) (.agg [im v1,im v2])=J (c.push [im v1,im v2]):=by rw[AQ (aU _ _),ml]
 have z50:=GV;have z35:=vH;have u23:=dp;have z3:=fa;have f27:=λz4=>@jF z4;have e_:=db (bU x.bG);have zS:(0:Int)<(F (bU x.bG):Int):=by omega
 clear b d q e z0 n bK A dD Wh on q2 q4 q5 q6 w1 w2 h1 h2 n1 n2 R Z q13 q1 p1 q11 fw;generalize bU x.bG=cm at *
 generalize fT x=zs at *
 generalize hY x a=z1 at *
 generalize aJ 0 nl nl nl=Z0 at *
 generalize aJ 0 a.X a.Y (.ac t2 1 (aF cm))=KY at *
 generalize bH x.doc a.p a.r a.n=DD at *
 generalize aD x.dk A0=D0 at *
 generalize aD {x.dk with bO:=di x} a1=D1 at *
 generalize aD {x.dk with bO:=di x} a2=D2 at *
 generalize aD {x.dk with bO:=di x,aW:=zs} a3=D3 at *
 generalize aD {x.dk with bO:=di x,aW:=zs} a4=D4 at *
 generalize aD c0 a0=E0 at *
 generalize al cm 0=c0 at *
 have k1:=aj.mk (ar v (ar s8 (ar m8 (ar m (ar yy (ar E u))))));have k2:=aj.mk (ar D (ar G (ar j (ar w (ar l8 (ar l9 (ar B (ar s11 (ar e3 e4)))))))));clear v s8 m8 m yy E u D G j w l8 l9 B s11 e3 e4;unfold im at *
 refine cA O yU O ?_;refine Gs 9 (λf K'=>f.get 2=O2/\f.get 7=.ptr (.box (F K.I)) 0/\f.get 8=T/\f.get 10=.arr bz 0 (F zs) (F zs)/\f.get 15=.ptr (.box (F K3.I)) 0/\f.get 17=.ptr (.box (F K5.I)) 0/\f.defers=[]/\K'=K6) ?_ ?_
 .intro bb nD;have kb:=aj.mk nD;clear nD
  repeat' (first|simp(maxSteps:=9999999) (disch:=first|exact dZ|fail) only[gW,reduceIte,aT,aN,Dh,bC,Code.vq, *]|refine dX ?_ ?_<;>(intro _;try omega))
  exact kb.M _ _ ⟨by exact gS,by exact gS,by exact gS,by exact gS,by exact gS,by exact gS,by simp only[gW,reduceIte,aT,aN],O⟩
 rintro f K' ⟨g2,g7,g8,g10,g15,g17,gd,rfl⟩;clear cs bx l0 c23 z27 lO lO2 g s27 d1 d2 l1 l2 l3 f59 l4 l5 HL Ew s2 TS s4 TT s6;obtain⟨v,s8,m8,m,yy,E,u⟩:=k1.M;obtain⟨D,G,j,w,l8,l9,B,s11,e3,e4⟩:=k2.M;clear k1 k2;have tI:((F ([]:List (List V)):Nat):Int)=0:=rfl;unfold im at *
 repeat' (first|simp(maxSteps:=9999999) (disch:=first|exact dZ|fail) only[gW,reduceIte,aT,aN,Dh,Code.tl, *]|refine dX ?_ ?_<;>(intro _;try omega))
 refine dW rH bX ?_;refine bF @Dh @bj ?_;exact⟨_,_,O,O⟩
end Go.Proofs.YtcbhpkjbiehcpaaGreatDoor
end
section
namespace Go.Proofs.YtcbhpkjbiehcpaaGreatDoor
open Go.AE Go.NT Go.RowKit
section
variable {H:Type}
def agr:ag.cellsOf 57=1:=aB
def ags:ag.cellsOf 59=46:=aB
def Ug:ag.cellsOf 108=2:=aB
def avo:AR ag 59 [(25,0),(23,2),(31,3),(23,44),(57,45)]=aa:=aB
def NE{x:V}{l:List Int}{d:DataW H}(h:Has ag 23 [x] d)(q:IL x l):F l<=9223372036854775807:=by obtain⟨k,e,b,c,-⟩:=h.AP dp;obtain⟨f,g,rfl,-⟩:=q;injection b with b _;injection b with _ _ b;rw[<-b,db]at c;exact fB c bm
def ajQ{D:Dc}{p r n:V}{d:DataW H}(h:Has ag 31 (bH D p r n) d)(c:mo D p r n):D.oY:=by obtain⟨-,b⟩:=h.fields abh;obtain⟨_,e⟩:=b 6 23 6 O;obtain⟨_,f⟩:=b 7 23 7 O;obtain⟨_,g⟩:=b 8 23 8 O;rw[Ey]at e f g;exact⟨NE (x:=p) e c.p,NE (x:=r) f c.r,NE (x:=n) g c.n⟩
def ajU{r:List V}{d:DataW H}(h:Has ag 108 r d):∃q:Int × Int,r=bI q:=by
 have c:=Tryz.underlying108;cases h with
 |bool b=>rw[c]at b;cases b
 |int b=>rw[c]at b;cases b
 |str b=>rw[c]at b;cases b
 |none b=>rw[c]at b;cases b
 |ac b=>rw[c]at b;cases b
 |struct b=>rw[c]at b;cases b
 |array b z e j w i=>rw[c]at b;injection b with b;injection b with o p;subst o;subst p;rw[Ug]at j;obtain⟨a,A,rfl⟩:=tP j;have m:=i 0 e[0] (aY af);have n:=i 1 e[1] (aY af);rw[MI]at m n;obtain⟨u,f,-⟩:=m.tL rG;obtain⟨v,g,-⟩:=n.tL rG;simp at f g;subst f;subst g;exact⟨(u,v),O⟩
def ajR{x:V}{d:DataW H}(h:kC ag 59 x d):∃q a,x=.agg (hY q a)/\mT q a/\q.doc.oY:=by
 obtain⟨xs,rfl,u,c⟩:=h.fields avo;rw[ags]at u;obtain⟨_,A⟩:=c 0 25 0 O;obtain⟨_,B⟩:=c 1 23 2 O;obtain⟨_,g⟩:=c 2 31 3 O;obtain⟨_,D⟩:=c 3 23 44 O;obtain⟨_,G⟩:=c 4 57 45 O;rw[agq,gP]at A;rw[Ui]at g;rw[Ey]at B D;rw[agr]at G;obtain⟨_,i⟩:=A.fields avn;obtain⟨_,w⟩:=i 0 22 0 O;obtain⟨_,z⟩:=i 1 23 1 O;rw[agp]at w;rw[Ey]at z;obtain⟨X,U,m,hx⟩:=ajS w;obtain⟨Y,ae,n,E⟩:=zQ z;obtain⟨N,b,o,hn⟩:=zQ B;obtain⟨z1,z3,z0,z2,j,f⟩:=ajP g;obtain⟨W,R,p,hw⟩:=zQ D;rw[j]at g;have hc:=ajQ g f;obtain⟨v,es,r,-,-,-,he⟩:=G.AP Mh;obtain⟨Z,rfl⟩:∃Z:List (Int × Int),es=Z.map bI:=Qw λz0 hr=>by obtain⟨-,d,f⟩:=he z0 hr;exact ajU f
 refine⟨⟨U,ae,b,z1,R,Z⟩,⟨X,Y,N,z3,z0,z2,W,.ac v (ag.cellsOf 108) (bY Z)⟩,?_,⟨hx,E,hn,f,hw,⟨v,_,O,λ_=>Ug⟩⟩,hc⟩;congr 1;unfold hY;obtain⟨x0,c0,rfl,k0⟩:=rY u;obtain⟨x1,c1,rfl,k1⟩:=rY k0;obtain⟨x2,e,rfl,k2⟩:=rY k1;simp at m n o;simp only[List.drop_succ_cons,gP]at j p r;have f3:e.drop 42=(e.drop 42).take 1:=(fK (by rw[fJ];omega)).symm;have f2:=(xq 1 (e.drop 41)).symm;have f1:=(xq 41 e).symm;rw[List.drop_drop]at f2;rw[f3,p,r]at f2;rw[f2,j]at f1;rw[m,n,o,f1];simp;rfl
def Yd:List TypeId:=[3,4,5,22,23,25,29,31,57,59,60,68,69,108]
end
end Go.Proofs.YtcbhpkjbiehcpaaGreatDoor
end
