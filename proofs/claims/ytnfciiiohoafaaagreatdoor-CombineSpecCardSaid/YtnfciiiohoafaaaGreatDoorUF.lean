/-
  The engine, part 51: a function that gives a number and takes lists whose cells may lie in boxes: for the call these boxes are lists.
-/
import Derived.Test.YtnfciiiohoafaaaGreatDoorUE
import Derived.Test.YtnfciiiohoafaaaGreatDoorUD
open True renaming intro->aU
open Go.Proofs.Tryz renaming prog->ao,underlying23->dQ,func157->adQ,underlying22->ji,func59->adZ,underlying28->jz,underlying94->qg,underlying180->ad0,func158->adR,underlying29->yC
open Option renaming none->au,some->aa,map_some->ff
open Bool renaming false->az,true->ah,and_eq_true->bC,true_and->ry,false_and->yn
open Nat renaming zero_le->cA,reduceEqDiff->aO,add_mul->gJ,le_refl->aJ,beq->jQ,ble->NA,eq_of_beq_eq_true->jW,le_of_ble_eq_true->jR,mul_le_mul->qG,lt_or_ge->dW,succ_ne_zero->TP,eq_zero_or_pos->Gy,mul_one->oN
open List renaming getElem?_eq_getElem->aR,mem_of_getElem?->dj,any_append->Ng,any_eq_true->Gh,cons_append->kL,take_length->fC,range->bM,range_succ->om,foldl_append->oj,any_cons->acS,all_cons->Gg,length_map->bu,getD_eq_getElem?_getD->ez,all_eq_true->ey,mem_range->fQ,length_nil->kQ,all_append->zZ,all_eq_false->DS,flatten_append->rC,mem_map->jP,length_take->eS,flatten_cons->pC,length_cons->iP,mem_cons->iu,mem_cons_self->fW,mem_cons_of_mem->fE,getElem?_eq_some_iff->aS,getElem?_take->oJ,getElem?_drop->pD,mem_of_mem_take->pE,nil_append->lJ,getElem?_append_left->sH,length_append->dw,getElem?_concat_length->Gk,getElem?_map->ej,take_of_length_le->gm,replicate->a9,take_append_drop->yz,mem_flatten->Nq,not_mem_nil->vH,take_left'->JK,drop_of_length_le->qF,append_nil->jr,getElem?_of_mem->uJ,map_cons->eC,ext_getElem?->rB,getElem?_eq_none->uI,getElem?_range->yx,map_nil->vE,getElem_mem->iW,find?_append->ac3,take_succ_cons->hU,take_zero->fR
open And renaming intro->aw
open Int renaming sub_zero->DR,natCast_zero->tK,toNat_natCast->dV
set_option maxHeartbeats 64000000
set_option maxRecDepth 100000
set_option linter.unusedSimpArgs false
set_option linter.unusedVariables false
set_option linter.constructorNameAsVariable false
set_option linter.defProp false
section
namespace Go.Proofs.YtnfciiiohoafaaaGreatDoor
open Go.AE Go.NT
section
variable {pr:FuncId->Option (List AV->aq->Option (AV × aq))}
def R5:Tryz.f159.results.toList=[.tmp 4]:=av
def alk(tu:pr 167=au)(g:FuncId)(aD:List AV)(p:Int->Bool)(h:aq)(x:AV)(l:List Int)(hx:IL x l)(hl:l.length<=1000000)(hp:∀n∈l,(whole ao Gt pr).call g (im n::aD) h=aa (.ret (.v (.bool (p n))),h)):
 ∃r h',(whole Tryz.prog Gt pr).call 167 [x,.func (.func g) [] aD] h=some (r,h')/\h'=h/\∃i:Int,r=.ret (im i)/\decide (0<=i)=l.any p:=by
 obtain⟨k,s,rfl,hs⟩:=hx;have kp:=al.mk hp;have ks:=al.mk hs;clear hp hs;have u23:=dQ;have z3:=fP;have cS:=dD l;refine db tu Tryz.func167 rfl ?_;refine br @vp ?_;refine cz (λm e H=>∃i:Nat,i<=l.length/\m=l.length - i/\(l.take i).any p=az/\e.get 0=.list k s (ints l)/\e.get 1=.func (.func g) [] aD/\e.get 7=.v (.int .i64 (l.length:Nat))/\e.get 8=.v (.int .i64 (i:Nat))/\e.defers=[]/\H=h) ?_ l.length _ _ ?_;rotate_left 1
 ·refine⟨0,cA _,rfl,by simp,?_,?_,?_,?_,?_,rfl⟩<;>exact gR
 rintro m e H ⟨i,hi,rfl,ha,g0,g1,g7,g8,hd,rfl⟩;have ka:=al.mk ha;clear ha;by_cases aA:i<l.length
 ·have bD:s=1:=ks.out (by intro q;rw[q] at aA;simp at aA);subst bD;have ld:=eE (H:=H) (s:=1) aA;have hv:l[i]?=aa (ai l i):=by rw[aR aA,fm aA]
  have hc:=kp.out (ai l i) (dj hv);have fx:(i:Int)<(l.length:Int):=by omega
  have lU:(l.take (i+1)).any p=p (ai l i):=by rw[ft hv,Ng,ka.out];simp
  have kt:=al.mk lU;have kh:=al.mk hv;clear hv lU;unfold im at hc;cases eL:p (ai l i) with
  |true=>rw[eL] at hc;have lq:l.any p=ah:=Gh.2 ⟨_,dj kh.out,eL⟩;have kan:=al.mk lq;clear lq eL;refine cQ @vp @bh @kL.{0} ?_;exact⟨_,_,rfl,rfl,(i:Int),rfl,by rw[kan.out];simp⟩
  |false=>rw[eL] at hc;have kt2:(l.take (i+1)).any p=az:=kt.out.trans eL;clear eL;refine cQ @vp @bh @kL.{0} ?_;exact⟨l.length - (i+1),by omega,i+1,by omega,rfl,kt2,by simp⟩
 ·have:i=l.length:=by omega
  subst this;have:=ka.out;rw[fC] at this;have kan:=al.mk this;clear this;refine br @vp ?_;exact⟨_,_,rfl,rfl,-1,rfl,by rw[kan.out];rfl⟩
def Kc(OV:pr 167=au)(OU:pr 126=au)(g:FuncId)(aD:List AV)(p:Int->Bool)(h:aq)(x:AV)(l:List Int)(hx:IL x l)(hl:l.length<=1000000)(hp:∀n∈l,(whole ao Gt pr).call g (im n::aD) h=aa (.ret (.v (.bool (p n))),h)):
 (whole ao Gt pr).call 126 [x,.func (.func g) [] aD] h=aa (.ret (.v (.bool (l.any p))),h):=by
 obtain⟨r,h',c,rfl,i,rfl,hi⟩:=alk OV g aD p h x l hx hl hp;have Cq:decide (0<=i)=l.any p:=hi;unfold im at c;refine cJ OU Tryz.func126 rfl ?_;clear hi hp;exact lP @RY
def aur(tu:pr 159=au)(AG:∀a b h,(whole ao Gt pr).call 28 [im a,im b] h=aa (.ret (im (cd a b)),h))(g:FuncId)(aD:List AV)(f:Nat->Int)(h:aq)(x:AV)(l:List Int)(hx:IL x l)(hl:l.length<=1000000)
 (hp:∀i,i<l.length->(whole ao Gt pr).call g (im (i:Nat)::im (ai l i)::aD) h=aa (.ret (im (f i)),h)):
 ∃h',(whole ao Gt pr).call 159 [x,.func (.func g) [] aD] h=aa (.ret (im ((bM l.length).foldl (λx j=>cd x (f j)) 0)),h')/\h'=h:=by
 obtain⟨k,s,rfl,hs⟩:=hx;have kp:=al.mk (aw hp hs);clear hp hs;have u23:=dQ;have z3:=fP;have cS:=dD l;unfold im;refine hY tu Tryz.func159 rfl ?_;refine br @R5 ?_;refine cz (λm e H=>∃i:Nat,i<=l.length/\m=l.length - i/\e.get 1=.func (.func g) [] aD/\e.get 4=.v (.int .i64 ((bM i).foldl (λx j=>cd x (f j)) 0))/\e.get 7=.list k s (ints l)/\e.get 8=.v (.int .i64 (l.length:Nat))/\e.get 9=.v (.int .i64 (i:Nat))/\e.defers=[]/\H=h) ?_ l.length _ _ ?_;rotate_left 1
 ·refine⟨0,cA _,rfl,?_,?_,?_,?_,?_,?_,rfl⟩<;>exact gR
 rintro m e H ⟨i,hi,rfl,g1,g4,g7,g8,g9,hd,rfl⟩;by_cases aA:i<l.length
 ·have bD:s=1:=kp.out.2 (by intro q;rw[q] at aA;simp at aA);subst bD;have ld:=eE (H:=H) (s:=1) aA;have hc:=kp.out.1 i aA;have ha:=λv=>AG v (f i) H;have fx:(i:Int)<(l.length:Int):=by omega
  have bT:cd ((bM i).foldl (λx j=>cd x (f j)) 0) (f i)=(bM (i+1)).foldl (λx j=>cd x (f j)) 0:=by rw[om,oj];rfl
  have kst:=al.mk bT;clear bT;generalize (bM i).foldl (λx j=>cd x (f j)) 0=acc at *
  unfold im at hc ha;refine cQ @R5 @bh @kL.{0} ?_;exact⟨l.length - (i+1),by omega,i+1,by omega,rfl,by trivial,by rw[kst.out],by simp⟩
 ·have:i=l.length:=by omega
  subst this;refine br @R5 ?_;exact⟨_,rfl,rfl⟩
end
def aaQ:Tryz.f157.results.toList=[.tmp 2]:=av
def ark:Tryz.f107.results.toList=[.tmp 2]:=av
def aaI:Tryz.f108.results.toList=[.tmp 2]:=av
def arl:Tryz.f110.results.toList=[.tmp 4]:=av
def arA:Tryz.f160.results.toList=[.tmp 5]:=av
def arE:Tryz.f168.results.toList=[.tmp 2]:=av
def LU:Tryz.f129.results.toList=[.tmp 4]:=av
def RZ:Tryz.f130.results.toList=[.tmp 4]:=av
def arW:Tryz.f57.results.toList=[.tmp 4]:=av
def ar2:Tryz.f77.results.toList=[.tmp 4]:=av
def aoz(x n)(h):W4.call 57 [im x,im n] h=aa (.ret (im (eR x n)),h):=by
 have c:=OQ x n;unfold im at *
 refine cJ rfl Tryz.func57 rfl ?_;exact lP @arW
def aoB(x n)(h):W4.call 77 [im x,im n] h=aa (.ret (im (eR x n)),h):=by
 have c:=OQ x n;unfold im at *
 refine cJ rfl Tryz.func77 rfl ?_;exact lP @ar2
def anc(n):nD n= !bX n:=by
 unfold nD bX Qi;by_cases h0:n<0
 ·rw[bQ h0,cE (ag:¬0<=n)];rfl
 ·by_cases h1:1073741789<=n
  ·rw[cE h0,bQ h1,bQ (ag:0<=n),cE (ag:¬n<1073741789)];rfl
  ·rw[cE h0,cE h1,bQ (ag:0<=n),bQ (ag:n<1073741789)];rfl
def ana(n)(h):W4.call 157 [im n] h=aa (.ret (.v (.bool (nD n))),h):=by
 unfold im nD;by_cases h0:n<0
 ·refine cJ rfl adQ rfl ?_;have:decide (n<0)=ah:=by simp[h0]
  exact jl @aaQ @Bool.true_or
 ·refine cJ rfl adQ rfl ?_;have:decide (n<0)=az:=by simp[h0]
  exact jl @aaQ @Bool.false_or
def NZ(l:List Int):(!l.any nD)=l.all bX:=by
 induction l with
 |nil=>rfl|cons a l ih=>rw[acS,Gg,<-ih,anc];simp
def ZI(x)(l)(hx:IL x l)(hl:l.length<=1000000)(h):W4.call 107 [x] h=aa (.ret (.v (.bool (l.all bX))),h):=by have c:=Kc (pr:=Fx) rfl rfl 157 [] nD h x l hx hl (λn _=>ana n h);have hv:(!l.any nD)=l.all bX:=NZ l;refine cJ rfl Tryz.func107 rfl ?_;clear hx;exact lP @ark
def Vz(h:aq)(x y:AV)(ae:List (List Int))(owners:List Int)(hx:RL x ae)(hy:IL y owners):∃h',W4.call 108 [.agg [x,y]] h=aa (.ret (.v (.int .i64 (bJ ae:Nat))),h')/\h'=h.push [x,y]:=by
 obtain⟨k,s,xs,rfl,hs,dN,eH⟩:=hx;have bx:(AV.agg [.list k s (xs.map λa=>[a]),y]).bP=aa [.list k s (xs.map λa=>[a]),y]:=by obtain⟨ky,sy,rfl,-⟩:=hy;rfl
 have l0:=rZ (aZ h [.list k s (xs.map λa=>[a]),y]);have u23:=dQ;have u22:=ji;have z23:=il;have cS:(xs.map λa=>[a]).length=ae.length:=by rw[bu];exact dN
 refine hY rfl Tryz.func108 rfl ?_;by_cases h0:ae.length=0
 ·have hq:(ae.length:Int)=0:=by omega
  have hc:bJ ae=1:=by unfold bJ;rw[aG h0]
  rw[hc];clear h0 eH hs dN hc;refine cQ @aaI @bg @dE ?_;exact⟨_,rfl,rfl⟩
 ·have hq:¬((ae.length:Int)=0):=by omega
  obtain⟨a0,gu⟩:∃a,xs[0]?=aa a:=⟨_,aR ag⟩;obtain⟨r0,gv⟩:∃r,ae[0]?=aa r:=⟨_,aR ag⟩;have bD:s=1:=hs (by intro q;rw[q] at h0;simp at h0);subst bD;have ld0:=lV (H:=h.push [.list k 1 (xs.map λa=>[a]),y]) (s:=1) gu;obtain⟨ka0,sa0,rfl,qp⟩:=eH 0 a0 r0 gu gv;have hc:bJ ae=r0.length:=by unfold bJ;rw[aI h0,ez,gv];rfl
  rw[hc];have cP:=dD r0;have AD:(0:Int)<(ae.length:Int):=by omega
  have z0:(0:Int).toNat=0:=rfl;clear h0 eH hs dN hc gu gv qp;refine bA @aaI @bg @dE @bh ?_;exact⟨_,rfl,rfl⟩
def auW(h:aq)(b i:Nat)(n:Int)(y:AV)(l:List Int)(hb:h.boxes[b]?=aa [y])(hy:IL y l)(hi:i<l.length):W4.call 160 [im (i:Nat),im n,.ptr (.box b) 0] h=aa (.ret (im (cR n (ai l i))),h):=by
 obtain⟨k,s,rfl,hs⟩:=hy;have bD:s=1:=hs (by intro q;rw[q] at hi;simp at hi);subst bD;have l1:=vd hb;have ld:=eE (H:=h) (s:=1) hi;have u23:=dQ;have z3:=fP;have cS:=dD l;have hiI:(i:Int)<(l.length:Int):=by omega
 have c:=Zw n (ai l i);unfold im at *
 clear hs hb;refine cJ rfl Tryz.func160 rfl ?_;exact jl @arA @bh
def auU(h:aq)(x y:AV)(a b:List Int)(hx:IL x a)(hy:IL y b)(hl:a.length<=1000000)(Ew:a.length<=b.length):∃h',W4.call 110 [x,y] h=aa (.ret (im (oQ a b)),h')/\h'=h.push [y]:=by
 obtain⟨_,c,rfl⟩:=aur (pr:=Fx) rfl (λa b h=>Up a b h) 160 [.ptr (.box h.boxes.length) 0] (λi=>cR (ai a i) (ai b i)) (h.push [y]) x a hx hl (λi hi=>auW (h.push [y]) h.boxes.length i (ai a i) y b (aZ _ _) hy ag);have cy:y.bP=aa [y]:=by obtain⟨k,s,rfl,-⟩:=hy;rfl
 have e:(bM a.length).foldl (λx j=>cd x (cR (ai a j) (ai b j))) 0=oQ a b:=rfl;rw[e] at c;unfold im at *
 clear hx hy e;refine hY rfl Tryz.func110 rfl ?_;refine bK @arl @bg ?_;exact⟨_,rfl,rfl⟩
def avk(n)(h):W4.call 168 [im n] h=aa (.ret (.v (.bool (!bI n))),h):=by
 have c:=ab6 n;unfold im at *
 refine cJ rfl Tryz.func168 rfl ?_;exact lP @arE
def Ux(p)(l:List Int):(l.any λn=> !p n)= !l.all p:=by
 induction l with
 |nil=>rfl|cons a l ih=>rw[acS,Gg,ih];simp
def nY:Tryz.f115.results.toList=[.tmp 2]:=av
def ao7(h:aq)(x y:AV)(ae:List (List Int))(owners:List Int)(hx:RL x ae)(hy:IL y owners)(cP:ae.length<=1000000):
 ∃r h',W4.call 115 [.agg [x,y]] h=aa (r,h')/\h'=h.push [x,y]/\r=.ret (.v (.int .i64 (cW ae owners))):=by
 obtain⟨k,s,xs,rfl,hs,dN,eH⟩:=hx;obtain⟨ky,sy,rfl,lT⟩:=hy;have kk:=al.mk (aw hs (aw eH lT));clear hs eH lT;have u23:=dQ;have u22:=ji;have z23:=il;have z3:=fP;have cS:(xs.map λa=>[a]).length=ae.length:=by rw[bu];exact dN
 have tq:=dD owners;have b0:(h.push [.list k s (xs.map λa=>[a]),.list ky sy (ints owners)]).boxes[h.boxes.length]?=aa [.list k s (xs.map λa=>[a]),.list ky sy (ints owners)]:=aZ _ _;have l0:=rZ b0;have l1:=Ff b0;have bx:(AV.agg [.list k s (xs.map λa=>[a]),.list ky sy (ints owners)]).bP=aa [.list k s (xs.map λa=>[a]),.list ky sy (ints owners)]:=rfl;clear b0;have k1:al (64<ae.length->cW ae owners=2):=⟨λq=>by unfold cW;rw[aG (by simp[q])]⟩;have k2:al (∀(i:Nat) r,ae[i]?=aa r->64<r.length->cW ae owners=2):=⟨λi r hr q=>by unfold cW;rw[aG];rw[Bool.or_eq_true];exact .inr (Gh.2 ⟨r,dj hr,by simp[q]⟩)⟩;have k3:al (ae.length<=64->(ae.any λr=>decide (64<r.length))=az->ae.length≠owners.length->cW ae owners=230):=⟨λq1 q2 q3=>by unfold cW;rw[aI (by rw[q2];simp;omega),aG q3]⟩;have k4:al (ae.length<=64->(ae.any λr=>decide (64<r.length))=az->ae.length=owners.length->cW ae owners=if ((bM ae.length).all (tV ae owners))=ah then (0:Int) else 230):=⟨λq1 q2 q3=>by unfold cW;rw[aI (by rw[q2];simp;omega),aI (by simpa using q3)];rfl⟩;generalize cW ae owners=res at *
 obtain⟨H,hH⟩:∃H,h.push [.list k s (xs.map λa=>[a]),.list ky sy (ints owners)]=H:=⟨_,rfl⟩;rw[hH] at l0 l1;rw[hH];refine db rfl Tryz.func115 rfl ?_;by_cases h1:64<ae.length
 ·have hq:((64:Int)<(ae.length:Int)):=by omega
  have kr:=al.mk (k1.out h1);clear h1;refine bA @nY @dE @eQ (aw @bg @hH) ?_;exact⟨_,_,rfl,rfl,by rw[kr.out]⟩
 have hq:¬((64:Int)<(ae.length:Int)):=by omega
 have KA:ae.length<=64:=by omega
 refine bA @nY @dE @eQ (aw @bg @hH) ?_;refine bH.gen λe0 aF bB cU cN=>?_;have f1:e0.get 1=.ptr (.box h.boxes.length) 0:=by rw[aF];exact gS
 have f3:e0.get 3=.v (.int .i64 (0:Nat)):=by rw[aF];exact gR
 have fd:e0.defers=[]:=by rw[bB];exact gS
 clear aF bB cU cN bx hq h1 hH;refine cz (λm e H2=>∃i:Nat,i<=ae.length/\m=ae.length - i/\al (((ae.take i).any λr=>decide (64<r.length))=az)/\e.get 1=.ptr (.box h.boxes.length) 0/\e.get 3=.v (.int .i64 (i:Nat))/\e.defers=[]/\H2=H) ?_ ae.length _ _ ?_;rotate_left 1
 ·exact⟨0,cA _,rfl,⟨bE⟩,f1,f3,fd,rfl⟩
 clear f1 f3 fd;rintro m e H ⟨i,hi,rfl,kt,g1,g3,hd,rfl⟩;by_cases aA:i<ae.length
 ·have bD:s=1:=kk.out.1 (by intro q;rw[q] at aA;simp at aA);subst bD;obtain⟨a,gh⟩:∃a,xs[i]?=aa a:=⟨_,aR ag⟩;obtain⟨r,hv⟩:∃r,ae[i]?=aa r:=⟨_,aR aA⟩;have ld:=lV (H:=H) (s:=1) gh;obtain⟨ka,sa,rfl,jt⟩:=kk.out.2.1 i a r gh hv;have xK:=dD r;have fx:(i:Int)<(ae.length:Int):=by omega
  by_cases hb:64<r.length
  ·have hbI:((64:Int)<(r.length:Int)):=(by omega);have kr:=al.mk (k2.out i r hv hb);clear gh hv jt hb;refine bA @nY @dE @eQ @bh ?_;exact⟨_,_,rfl,rfl,by rw[kr.out]⟩
  ·have hbI:¬((64:Int)<(r.length:Int)):=(by omega);have kt2:al (((ae.take (i+1)).any λr=>decide (64<r.length))=az):=⟨by rw[ft hv,Ng,kt.out];simp;omega⟩;clear gh hv jt hb;refine bA @nY @dE @eQ @bh ?_;exact⟨ae.length - (i+1),by omega,i+1,by omega,rfl,kt2,by simp⟩
 have fF:i=ae.length:=by omega
 subst fF;have lq:=kt.out;rw[fC] at lq;have kany:=al.mk lq;clear lq kt hi;by_cases h3:ae.length=owners.length;rotate_left 1
 ·have kr:=al.mk (k3.out KA kany.out h3);have hn:¬((ae.length:Int)=(owners.length:Int)):=by omega
  clear h3;refine cQ @nY @dE @eQ ?_;exact⟨_,_,rfl,rfl,by rw[kr.out]⟩
 have kres:=al.mk (k4.out KA kany.out h3);have kn:=al.mk h3;have hn:(owners.length:Int)=(ae.length:Int):=by omega
 clear h3;refine cQ @nY @dE @eQ ?_;refine bH.gen λe0 aF bB cU cN=>?_;have f1:e0.get 1=.ptr (.box h.boxes.length) 0:=by rw[aF];simp only[gW,reduceIte,aO,aM];exact g1
 have f4:e0.get 4=.v (.int .i64 (0:Nat)):=by rw[aF];exact gR
 have fd:e0.defers=[]:=by rw[bB];simp only[gW,reduceIte,aO,aM];exact hd
 clear aF bB cU cN g1 g3 hd aA;refine cz (λm e H2=>∃i:Nat,i<=ae.length/\m=ae.length - i/\al (∀j,j<i->tV ae owners j=ah)/\e.get 1=.ptr (.box h.boxes.length) 0/\e.get 4=.v (.int .i64 (i:Nat))/\e.defers=[]/\H2=H) ?_ ae.length _ _ ?_;rotate_left 1
 ·exact⟨0,cA _,rfl,⟨λj hj=>absurd hj (Nat.not_lt_zero _)⟩,f1,f4,fd,rfl⟩
 clear f1 f4 fd;rintro m e H3 ⟨i,hi,rfl,kf,g1,g4,hd,rfl⟩;by_cases aA:i<ae.length;rotate_left 1
 ·have fF:i=ae.length:=by omega
  subst fF;have k0:al (res=0):=⟨by rw[kres.out,aG];rw[ey];intro j hj;exact kf.out j (fQ.1 hj)⟩;refine cQ @nY @dE @eQ ?_;exact⟨_,_,rfl,rfl,by rw[k0.out]⟩
 have bD:s=1:=kk.out.1 (by intro q;rw[q] at aA;simp at aA);subst bD;have ny:sy=1:=kk.out.2.2 (by intro q;have h0:=kn.out;rw[q,kQ] at h0;omega);subst ny;obtain⟨a,gh⟩:∃a,xs[i]?=aa a:=⟨_,aR ag⟩;obtain⟨r,hv⟩:∃r,ae[i]?=aa r:=⟨_,aR aA⟩;obtain⟨a0,gu⟩:∃a,xs[0]?=aa a:=⟨_,aR ag⟩;obtain⟨r0,gv⟩:∃r,ae[0]?=aa r:=⟨_,aR ag⟩;have ld:=lV (H:=H3) (s:=1) gh;have ld0:=lV (H:=H3) (s:=1) gu;obtain⟨ka,sa,rfl,jt⟩:=kk.out.2.1 i a r gh hv;obtain⟨ka0,sa0,rfl,qp⟩:=kk.out.2.1 0 a0 r0 gu gv;have awE:=dD r;have um:=dD r0;have ldo:=eE (H:=H3) (l:=owners) (i:=i) (s:=1) (by have:=kn.out;omega);have xE:tV ae owners i=(!r.isEmpty&&decide (r.length=r0.length)&&wx (ai owners i)&&r.all bX):=by
  unfold tV wx;have g1:ae.getD i []=r:=by rw[ez,hv];rfl
  have g2:ae.getD 0 []=r0:=by rw[ez,gv];rfl
  rw[g1,g2]
 have fy:=al.mk xE;have kbad:al (tV ae owners i=az->res=230):=⟨by intro q;rw[kres.out,aI];intro z;rw[ey] at z;have:=z i (fQ.2 aA);rw[q] at this;cases this⟩;have fx:(i:Int)<(ae.length:Int):=by omega
 have AD:(0:Int)<(ae.length:Int):=by omega
 have z0:(0:Int).toNat=0:=rfl;have ks:=al.mk jt;have Xe:r.length<=64:=by have q:=kany.out;rw[List.any_eq_false] at q;have:=q r (dj hv);simpa using this
 clear xE gh hv jt gu gv qp;generalize ai owners i=o at *
 by_cases e1:r.length=0
 ·have tv:decide ((r.length:Int)<1)=ah:=bQ ag;have kb:al (res=230):=⟨kbad.out (by rw[fy.out,List.length_eq_zero_iff.1 e1];rfl)⟩;clear e1;refine bA @nY @dE @eQ @bh ?_;refine ev xj av ?_;refine bA @nY @dE @eQ @bh ?_;exact⟨_,_,rfl,rfl,by rw[kb.out]⟩
 have tv:decide ((r.length:Int)<1)=az:=cE ag;have oU:r.isEmpty=az:=by cases r with|nil=>exact absurd rfl e1|cons _ _=>rfl
 clear e1;by_cases e2:r.length=r0.length;rotate_left 1
 ·have rV:decide ((r.length:Int)=(r0.length:Int))=az:=cE ag;have kb:al (res=230):=⟨kbad.out (by rw[fy.out,oU,cE e2];rfl)⟩;clear e2 oU;refine bA @nY @dE @eQ @bh ?_;refine ev xj av ?_;refine bA @nY @dE @eQ @bh ?_;exact⟨_,_,rfl,rfl,by rw[kb.out]⟩
 have rV:decide ((r.length:Int)=(r0.length:Int))=ah:=bQ ag;have ke2:=al.mk e2;clear e2;by_cases e3:o<0
 ·have Yj:decide (o<0)=ah:=bQ e3;have kb:al (res=230):=⟨kbad.out (by rw[fy.out];unfold wx;rw[cE (ag:¬0<=o)];simp)⟩;clear e3 oU;refine bA @nY @dE @eQ @bh ?_;refine ev xj av ?_;refine bA @nY @dE @eQ @bh ?_;exact⟨_,_,rfl,rfl,by rw[kb.out]⟩
 have Yj:decide (o<0)=az:=cE e3;by_cases e4:64<=o
 ·have Yk:decide (64<=o)=ah:=bQ e4;have kb:al (res=230):=⟨kbad.out (by rw[fy.out];unfold wx;rw[cE (ag:¬o<=63)];simp)⟩;clear e3 e4 oU;refine bA @nY @dE @eQ @bh ?_;refine ev xj av ?_;refine bA @nY @dE @eQ @bh ?_;exact⟨_,_,rfl,rfl,by rw[kb.out]⟩
 have Yk:decide (64<=o)=az:=cE e4;have kfin2:al (tV ae owners i=r.all bX):=⟨by rw[fy.out,oU,bQ ke2.out];unfold wx;rw[bQ (ag:0<=o),bQ (ag:o<=63)];rfl⟩;clear e3 e4 oU;refine bA @nY @dE @eQ @bh ?_;refine ev xj av ?_;refine bA @nY @dE @eQ @bh ?_;refine bH.gen λe0 aF bB cU cN=>?_;have f1:e0.get 1=.ptr (.box h.boxes.length) 0:=by rw[aF];simp only[gW,reduceIte,aO,aM];exact g1
 have f4:e0.get 4=.v (.int .i64 (i:Nat)):=by rw[aF];simp only[gW,reduceIte,aO,aM];exact g4
 have f5:e0.get 5=.v (.int .i64 (0:Nat)):=by rw[aF];exact gR
 have fd:e0.defers=[]:=by rw[bB];simp only[gW,reduceIte,aO,aM];exact hd
 clear aF bB cU cN g1 g4 hd;refine cz (λm e H2=>∃j:Nat,j<=r.length/\m=r.length - j/\al ((r.take j).all bX=ah)/\e.get 1=.ptr (.box h.boxes.length) 0/\e.get 4=.v (.int .i64 (i:Nat))/\e.get 5=.v (.int .i64 (j:Nat))/\e.defers=[]/\H2=H3) ?_ r.length _ _ ?_;rotate_left 1
 ·exact⟨0,cA _,rfl,⟨bE⟩,f1,f4,f5,fd,rfl⟩
 clear f1 f4 f5 fd tv rV Yj Yk ldo ld0;rintro m e H4 ⟨j,hj,rfl,ka4,g1,g4,g5,hd,rfl⟩;by_cases rQ:j<r.length
 ·have qV:sa=1:=ks.out (by intro q;rw[q] at rQ;simp at rQ);subst qV;have ldx:=eE (H:=H4) (s:=1) rQ;have nW:r[j]?=aa (ai r j):=by rw[aR rQ,fm rQ]
  have awq:(j:Int)<(r.length:Int):=by omega
  have lU:(r.take (j+1)).all bX=bX (ai r j):=by rw[ft nW,zZ,ka4.out];simp
  have kt5:=al.mk (aw lU (dj nW));have Yl:bX (ai r j)=(decide (0<=ai r j)&&decide (ai r j<1073741789)):=rfl;have kqq:=al.mk Yl;clear nW lU Yl;generalize ai r j=n at *
  by_cases d1:n<0
  ·have fj:decide (n<0)=ah:=bQ d1;have kb:al (res=230):=⟨kbad.out (by rw[kfin2.out,DS];exact⟨n,kt5.out.2,by rw[kqq.out,cE (ag:¬0<=n)];simp⟩)⟩;clear d1;refine bA @nY @dE @eQ @bh ?_;exact⟨_,_,rfl,rfl,by rw[kb.out]⟩
  have fj:decide (n<0)=az:=cE d1;by_cases d2:1073741789<=n
  ·have ie:decide (1073741789<=n)=ah:=bQ d2;have kb:al (res=230):=⟨kbad.out (by rw[kfin2.out,DS];exact⟨n,kt5.out.2,by rw[kqq.out,cE (ag:¬n<1073741789)];simp⟩)⟩;clear d1 d2;refine bA @nY @dE @eQ @bh ?_;exact⟨_,_,rfl,rfl,by rw[kb.out]⟩
  have ie:decide (1073741789<=n)=az:=cE d2;have kt2:al ((r.take (j+1)).all bX=ah):=⟨by rw[kt5.out.1,kqq.out,bQ (ag:0<=n),bQ (ag:n<1073741789)];rfl⟩;clear d1 d2;refine bA @nY @dE @eQ @bh ?_;exact⟨r.length - (j+1),by omega,j+1,by omega,rfl,kt2,by simp⟩
 ·have nS:j=r.length:=by omega
  subst nS;have eM:=ka4.out;rw[fC] at eM;have kf2:al (∀j,j<i+1->tV ae owners j=ah):=⟨λj hj=>by
   rcases Nat.lt_succ_iff_lt_or_eq.1 hj with q|q
   ·exact kf.out j q
   ·rw[q,kfin2.out];exact eM⟩
  clear eM;refine bA @nY @dE @eQ @bh ?_;exact⟨ae.length - (i+1),by omega,i+1,by omega,rfl,kf2,by simp⟩
end Go.Proofs.YtnfciiiohoafaaaGreatDoor
end
section
namespace Go.AE
open Go.RowKit (Below)
def xY(z:Nat)(cs:List AV)(off len:Nat):List (List AV):=(bM len).map λi=>(cs.drop (off+i * z)).take z
def LN(z)(cs)(off):∀len,(xY z cs off len).flatten=(cs.drop off).take (len * z)
 |0=>by simp[xY]
 |n+1=>by
  have ih:=LN z cs off n;unfold xY at *
  rw[om,List.map_append,rC,ih,gJ,Nat.one_mul,List.take_add,List.drop_drop];simp
def ara(z)(cs)(off len):(xY z cs off len).length=len:=by unfold xY;simp
def arb{z}{cs}{off len}(h:off+len * z<=cs.length):∀r∈xY z cs off len,r.length=z:=by intro r hr;unfold xY at hr;obtain⟨i,hi,rfl⟩:=jP.1 hr;have hi:=fQ.1 hi;have:(i+1) * z<=len * z:=Nat.mul_le_mul_right _ hi;rw[gJ] at this;rw[eS,List.length_drop];omega
mutual
def lj(z:Nat)(h:aq):AV->AV
 | .list k sz es=>.list (bO k) sz (rK z h es)
 | .arr b off len aD=>match h.boxes[b]? with
  |some cs=>if off+len * z<=cs.length/\0<z then .list .held z (fa (xY z cs off len)) else .arr b off len aD
  |none=>.arr b off len aD
 | .tuple cs=>.tuple (mB z h cs)
 | .agg cs=>.agg (mB z h cs)
 | .iface t x=>.iface t (lj z h x)
 |x=>x
def mB(z:Nat)(h:aq):List AV->List AV
 | []=>[]
 |x::r=>lj z h x::mB z h r
def rK(z:Nat)(h:aq):List (List AV)->List (List AV)
 | []=>[]
 |r::rs=>mB z h r::rK z h rs
end
section
variable {z:Nat} {h:aq}
def Wj:∀a b:List AV,mB z h (a++b)=mB z h a++mB z h b
 | [],b=>rfl
 |x::a,b=>by rw[kL,mB,Wj a b,mB,kL]
def Kw:∀es:List (List AV),(rK z h es).flatten=mB z h es.flatten
 | []=>rfl
 |r::es=>by rw[rK,pC,pC,Wj,Kw es]
def Wl:∀a:List AV,(mB z h a).length=a.length
 | []=>rfl
 |x::a=>by rw[mB,iP,Wl a,iP]
def Wm:∀a:List (List AV),(rK z h a).length=a.length
 | []=>rfl
 |x::a=>by rw[rK,iP,Wm a,iP]
def Wn{sz:Nat}:∀{es:List (List AV)},(∀r∈es,r.length=sz)->∀r∈rK z h es,r.length=sz
 | [],_,r,hr=>by cases hr
 |a::es,hh,r,hr=>by
  rw[rK] at hr;rcases iu.1 hr with rfl|hr
  ·rw[Wl];exact hh a fW
  ·exact Wn (λr hr=>hh r (fE _ hr)) r hr
def ajd(x:AV):(lj z h x).ek=x.ek:=by
 cases x with
 |arr b off len aD=>
  rw[lj];split
  ·split<;>rfl
  ·rfl
 |_=>rfl
def Wk:∀a:List AV,(mB z h a).all AV.ek=a.all AV.ek
 | []=>rfl
 |x::a=>by rw[mB,Gg,ajd,Wk a,Gg]
end
section
variable {P:Program} {G:Nat->Option (List AV)} {ok:FuncId->Nat->Code->Bool} {w0 w w':World} {K:aW} {h:aq} {z:Nat}
def aW.still(K:aW)(w:World):aW:={K with base:=w.heap.size,β:=[],γ:=[],tn:=0,md:=[],ic:=λg j=>w.cell? ⟨g,j,au⟩}
def Jg(s:bR K G ok w0 h w):∀g j c,K.ic g j=aa c->(K.still w).ic g j=aa c:=s.ic
mutual
def aX.nO(s:bR K G ok w0 h w):∀{x:AV} {c:Value},aX K x c->aK 0 0 0 (lj z h x)=ah->aX (K.still w) (lj z h x) c
 |_,_,.bad c,_=>.bad c
 |_,_,.v x hx,_=>.v x hx
 |_,_,.nil sz,_=>.nil sz
 |_,_,.jv sz a,_=>.jv sz a
 |_,_,.list k sz es g off m aD cells hn hr hv hc ht ha,hf=>by
  simp only[lj,aK,bC] at hf;have nW:=aQ.nO s hv (by rw[<-Kw,tW];exact hf.2);rw[<-Kw] at nW;have uj:m=(rK z h es).length:=by rw[Wm];exact hn
  have pN:(rK z h es).flatten.all AV.ek=ah:=by rw[Kw,Wk];exact ha
  have jD:=Wn (z:=z) (h:=h) hr;have Co:=λj c hj=>s.ic _ _ _ (hc j c hj);cases k with|nil=>exact ht.2.elim|tight=>exact .list .tight sz _ g off m aD cells uj jD nW Co ⟨ht.1,ht.2⟩ pN|free i=>exact .list .held sz _ g off m aD cells uj jD nW Co ⟨ht.1,aU⟩ pN|held=>exact .list .held sz _ g off m aD cells uj jD nW Co ⟨ht.1,aU⟩ pN
 |_,_,.arr b g off len aD fH iJ hb hl pP ho hr,hf=>by
  simp only[lj] at hf ⊢;cases cq:h.boxes[b]? with
  |none=>rw[cq] at hf;simp[aK] at hf|some cs=>
   rw[cq] at hf;simp only at hf ⊢;split at hf
   ·rename_i eO;rw[aG eO];obtain⟨eO,hz⟩:=eO;obtain⟨q1,q2,q3,cells,e,q4,q5⟩:=s.box b g cs hb cq;have akF:=q5.le;by_cases h0:aD=0
    ·have:len=0:=(by omega);subst this;exact .list .held z [] g fH 0 iJ [] rfl (λ_ h=>by cases h) .nil (λ_ _ h=>by simp at h) ⟨cA _,aU⟩ rfl
    ·have AX:fH=off:=by rcases ho with p|p<;>omega
     subst AX;have hv:aQ K ((cs.drop fH).take (len * z)) (((cells.toList.take cs.length).drop fH).take (len * z)):=(q5.1.drop fH).take (len * z);have nW:=aQ.mR (K2:=K.still w) (Jg s) (aQ.hold hv) (by simp only[aK,bC] at hf;have:=hf.2;rw[<-tW,EL,LN] at this;exact this);rw[<-LN,<-EL] at nW;refine .list .held z _ g fH len iJ (((cells.toList.take cs.length).drop fH).take (len * z)) (by rw[HR,ara]) (KV (arb eO)) nW (λj c hj=>?_) ⟨ag,aU⟩ ?_
     ·have pS:j<len * z:=(by have:=(aS.1 hj).1;rw[eS] at this;omega);rw[oJ,aG pS,pD,oJ,aG ag] at hj;show w.cell? ⟨g,fH+j,au⟩=aa c;rw[sT q4];simpa using hj
     ·rw[EL,P4,LN];rw[ey] at q3 ⊢;exactλx hx=>q3 x (List.mem_of_mem_drop (pE hx))
   ·simp[aK] at hf
 |_,_,.agg cs vs hv,hf=>.agg _ vs (aQ.nO s hv (by simpa only[lj,aK] using hf))
 |_,_,.tuple cs vs hv,hf=>.tuple _ vs (aQ.nO s hv (by simpa only[lj,aK] using hf))
 |_,_,.box b g off hb,hf=>by simp[lj,aK] at hf
 |_,_,.eV g off,_=>.eV g off
 |_,_,.elem sz es i off g o p cells hr hv hc hi hp ha,hf=>.elem sz es i off g o p cells hr (aQ.mR (Jg s) hv (by rw[tW];simpa only[lj,aK] using hf)) (λj c hj=>s.ic _ _ _ (hc j c hj)) hi hp ha
 |_,_,.func fn first aD fs cs h1 h2,hf=>by simp only[lj,aK,bC] at hf;exact .func fn first aD fs cs (aQ.mR (Jg s) h1 hf.1) (aQ.mR (Jg s) h2 hf.2)
 |_,_,.yield l g hl,hf=>by simp[lj,aK] at hf
 |_,_,.iface t x c hx,hf=>by simp only[lj,aK] at hf;exact .iface t _ c (aX.nO s hx hf)
def aQ.nO(s:bR K G ok w0 h w):∀{xs:List AV} {cs:List Value},aQ K xs cs->aP 0 0 0 (mB z h xs)=ah->aQ (K.still w) (mB z h xs) cs
 |_,_,.nil,_=>.nil
 |_,_,.cons x c xs cs hx hs,hf=>by simp only[mB,aP,bC] at hf;exact .cons _ c _ cs (aX.nO s hx hf.1) (aQ.nO s hs hf.2)
end
def bR.still(s:bR K G ok w0 h w)(hG:∀g cs,G g=aa cs->aP 0 0 0 cs=ah):bR (K.still w) G ok w ⟨[],[],0,[]⟩ w:=by
 refine⟨Below.refl _ _,aJ _,λg j c hc=>hc,λg cs hg=>?_,rfl,λb b' g hb=>by simp[aW.still] at hb,λb g cs hb=>by simp[aW.still] at hb,rfl,λb b' g hb=>by simp[aW.still] at hb,λl g r hl=>by simp[aW.still] at hl,rfl,λt ht=>?_,λt t' ht=>?_,λr hr=>by simp[aW.still] at hr,rfl⟩
 ·obtain⟨cells,q1,q2⟩:=s.eV g cs hg;exact⟨cells,aQ.mR (K1:=K) (K2:=K.still w) (Jg s) q1 (hG g cs hg),λj c hj=>s.ic _ _ _ (q2 j c hj)⟩
 ·simp[alive] at ht
 ·simp[alive] at ht
def Kv(z:Nat)(R:Rec)(g:FuncId)(args:List AV)(h:aq):Option (AV × aq):=
 if aP 0 0 0 (mB z h args)=ah then
  match R.call g (mB z h args) ⟨[],[],0,[]⟩ with
  |some (.ret (.v y),_)=>aa (.v y,h)
  |_=>au
 else au
def aje{prims:FuncId->Option (List AV->aq->Option (AV × aq))}(hp:Prog P)(hG:∀g cs,G g=aa cs->aP 0 0 0 cs=ah)(o6:∀V g p,prims g=aa p->tO P G V g p){g:FuncId}(ig:∃fn,P.funcs[g]?=aa fn/\fn.body.isSome=ah)(V:World):
 tO P G V g (Kv z (whole P G prims) g):=by
 refine⟨ig,λargs h x h' hx K w fB hv hs cs=>?_⟩;unfold Kv at hx;split at hx
 ·rename_i hf;split at hx
  ·rename_i y h2 hc;injection hx with hx;injection hx with YF tA;subst YF;subst tA;obtain⟨-,Ia⟩:=(Ta hp (o6 w)).call g _ _ _ _ hc;have s0:=bR.still hs hG;obtain⟨K1,w',fr,le,s1,bT,xF,v,qW,eO⟩:=Ia (K.still w) w fB (aQ.nO hs hv hf) s0 cs;have hb:Below w.heap.size w w':=(by have:=s1.dh;rwa [le.base] at this);refine⟨.returned v,w',fr,⟨v,_,rfl,aW.QT hs,?_,bR.sees hs hb⟩,bT,xF,eO⟩;cases qW with|v _ q=>exact .v _ q
  ·cases hx
 ·cases hx
def Ba(z:Nat)(R:Rec)(L M:List FuncId)(g:FuncId):Option (List AV->aq->Option (AV × aq)):=if L.contains g=ah then aa (Ef R g) else if M.contains g=ah then aa (Kv z R g) else au
def amK{prims:FuncId->Option (List AV->aq->Option (AV × aq))}(hp:Prog P)(hG:∀g cs,G g=aa cs->aP 0 0 0 cs=ah)(o6:∀V g p,prims g=aa p->tO P G V g p){L M:List FuncId}(hL:∀g∈L,∃fn,P.funcs[g]?=aa fn/\fn.body.isSome=ah)(hM:∀g∈M,∃fn,P.funcs[g]?=aa fn/\fn.body.isSome=ah):
 ∀V g p,Ba z (whole P G prims) L M g=some p->tO P G V g p:=by
 intro V g p he;unfold Ba at he;split at he
 ·rename_i hg;injection he with he;subst he;exact Vc hp hG o6 (hL g (by simpa using hg)) V
 ·split at he
  ·rename_i hg;injection he with he;subst he;exact aje hp hG o6 (hM g (by simpa using hg)) V
  ·cases he
def gT{R:Rec}{L M:List FuncId}{g:FuncId}{args b9:List AV}{x y:AV}{h1:aq}(hg:L.contains g=ah)(ha:bN args=b9)(hf:aP 0 0 0 b9=ah)(hc:R.call g b9 ⟨[],[],0,[]⟩=aa (.ret y,h1))(hy:gH h1 y=x)(hx:aK 0 0 0 x=ah):
 ∀h,(whole P G (Ba z R L M)).call g args h=aa (.ret x,h):=by
 intro h;subst ha;subst hy;rw[Jq];unfold rL Ba;rw[aG hg];simp only[Ef,Fj,aG hf,hc,aG hx,ff]
def ajc{R:Rec}{L M:List FuncId}{g:FuncId}{args b9:List AV}{y:Value}{h h1:aq}(hg:L.contains g=az)(hm:M.contains g=ah)(ha:mB z h args=b9)(hf:aP 0 0 0 b9=ah)(hc:R.call g b9 ⟨[],[],0,[]⟩=aa (.ret (.v y),h1)):
 (whole P G (Ba z R L M)).call g args h=aa (.ret (.v y),h):=by
 subst ha;rw[Jq];unfold rL Ba;rw[aI (by rw[hg];exact Bool.false_ne_true),aG hm];simp only[Kv,aG hf,hc];rfl
end
end Go.AE
end
section
namespace Go.Proofs.YtnfciiiohoafaaaGreatDoor
open Go.AE Go.NT
def aa4:Tryz.f59.results.toList=[.tmp 2]:=av
def Ml:Tryz.f92.results.toList=[.tmp 2]:=av
def aa2:Tryz.f42.results.toList=[.tmp 2]:=av
def am3(n:Int)(h:aq):W4.call 59 [im n] h=aa (.ret (.v (.bool (bX n))),h):=by
 unfold im bX Qi;by_cases h0:0<=n
 ·refine cJ rfl adZ rfl ?_;have:decide (0<=n)=ah:=by simp[h0]
  exact jl @aa4 @ry
 ·refine cJ rfl adZ rfl ?_;have:decide (0<=n)=az:=by simp[h0]
  exact jl @aa4 @yn
def am4(h:aq)(x:AV)(l:List Int)(hx:IL x l)(hl:l.length<=9223372036854775807):∃r h',W4.call 92 [x] h=aa (r,h')/\h'=h/\r=.ret (.v (.bool (l.all bX))):=by
 obtain⟨k,s,rfl,hs⟩:=hx;have ks:=al.mk hs;clear hs;have u23:=dQ;have z3:=fP;have cS:=dD l;refine db rfl Tryz.func92 rfl ?_;refine br @Ml ?_;refine cz (λm e H=>∃i:Nat,i<=l.length/\m=l.length - i/\al ((l.take i).all bX=ah)/\e.get 0=.list k s (ints l)/\e.get 3=.v (.int .i64 (i:Nat))/\e.defers=[]/\H=h) ?_ l.length _ _ ?_;rotate_left 1
 ·refine⟨0,cA _,rfl,⟨bE⟩,?_,?_,?_,rfl⟩<;>exact gR
 rintro m e H ⟨i,hi,rfl,ka,g0,g3,hd,rfl⟩;by_cases aA:i<l.length
 ·have bD:s=1:=ks.out (by intro q;rw[q] at aA;simp at aA);subst bD;have ld:=eE (H:=H) (s:=1) aA;have hv:l[i]?=aa (ai l i):=by rw[aR aA,fm aA]
  have fx:(i:Int)<(l.length:Int):=by omega
  have lU:(l.take (i+1)).all bX=bX (ai l i):=by rw[ft hv,zZ,ka.out];simp
  have kt:=al.mk (aw lU (dj hv));have c:=am3 (ai l i) H;unfold im at c;clear hv lU;generalize ai l i=n at *
  cases hq:bX n with
  |false=>have kf:al (l.all bX=az):=⟨by rw[DS];exact⟨n,kt.out.2,by simp[hq]⟩⟩;rw[hq] at c;clear hq;refine bK @Ml @bh ?_;exact⟨_,_,rfl,rfl,by rw[kf.out]⟩
  |true=>have kt2:al ((l.take (i+1)).all bX=ah):=⟨by rw[kt.out.1,hq]⟩;rw[hq] at c;clear hq;refine bK @Ml @bh ?_;exact⟨l.length - (i+1),by omega,i+1,by omega,rfl,kt2,by simp⟩
 ·have:i=l.length:=by omega
  subst this;have:=ka.out;rw[fC] at this;have kan:=al.mk this;clear this;refine br @Ml ?_;exact⟨_,_,rfl,rfl,by rw[kan.out]⟩
def aho(h:aq)(x y:AV)(ae:List (List Int))(owners:List Int)(hx:RL x ae)(hy:IL y owners):∃h',W4.call 42 [.agg [x,y]] h=aa (.ret (.v (.int .i64 (bJ ae:Nat))),h')/\h'=h.push [x,y]:=by
 obtain⟨k,s,xs,rfl,hs,dN,eH⟩:=hx;have bx:(AV.agg [.list k s (xs.map λa=>[a]),y]).bP=aa [.list k s (xs.map λa=>[a]),y]:=by obtain⟨ky,sy,rfl,-⟩:=hy;rfl
 have l0:=rZ (aZ h [.list k s (xs.map λa=>[a]),y]);have u23:=dQ;have u22:=ji;have z23:=il;have cS:(xs.map λa=>[a]).length=ae.length:=by rw[bu];exact dN
 refine hY rfl Tryz.func42 rfl ?_;by_cases h0:ae.length=0
 ·have hq:(ae.length:Int)=0:=by omega
  have hc:bJ ae=1:=by unfold bJ;rw[aG h0]
  rw[hc];clear h0 eH hs dN hc;refine cQ @aa2 @bg @dE ?_;exact⟨_,rfl,rfl⟩
 ·have hq:¬((ae.length:Int)=0):=by omega
  obtain⟨a0,gu⟩:∃a,xs[0]?=aa a:=⟨_,aR ag⟩;obtain⟨r0,gv⟩:∃r,ae[0]?=aa r:=⟨_,aR ag⟩;have bD:s=1:=hs (by intro q;rw[q] at h0;simp at h0);subst bD;have ld0:=lV (H:=h.push [.list k 1 (xs.map λa=>[a]),y]) (s:=1) gu;obtain⟨ka0,sa0,rfl,qp⟩:=eH 0 a0 r0 gu gv;have hc:bJ ae=r0.length:=by unfold bJ;rw[aI h0,ez,gv];rfl
  rw[hc];have cP:=dD r0;have AD:(0:Int)<(ae.length:Int):=by omega
  have z0:(0:Int).toNat=0:=rfl;clear h0 eH hs dN hc gu gv qp;refine bA @aa2 @bg @dE @bh ?_;exact⟨_,rfl,rfl⟩
def Vq(x y)(ae)(owners)(hx:RL x ae)(hy:IL y owners):∀h,W4.call 97 [.agg [x,y]] h=aa (.ret (.v (.int .i64 (cW ae owners))),h):=by obtain⟨h1,h2⟩:=hx.fZ;obtain⟨h3,h4⟩:=hy.hold;exact bm (L:=L4) (b9:=[.agg [aC x,aC y]]) rfl rfl (by simp[aP,aK,h2,h4]) (agX (aC x) (aC y) ae owners h1 h3 _) rfl rfl
def Kk{b}:gg ao 81 (.ptr (.box b) 0) 0=aa (.ptr (.box b) 0):=av
def Kl{b}:gg ao 81 (.ptr (.box b) 0) 1=aa (.ptr (.box b) 1):=av
def QM{H}{b}{x y}(hb:H.boxes[b]?=aa [x,y]):aH ao Gt H 3 (.ptr (.box b) 0)=aa x:=by rw[mJ eD hb];rfl
def QN{H}{b}{x y}(hb:H.boxes[b]?=aa [x,y]):aH ao Gt H 3 (.ptr (.box b) 1)=aa y:=by rw[mJ eD hb];rfl
def RL.bP{x}{ae}(h:RL x ae):x.bP=aa [x]:=by obtain⟨k,s,xs,rfl,-⟩:=h.form;rfl
def IL.bP{x}{l}(h:IL x l):x.bP=aa [x]:=by obtain⟨k,s,rfl,-⟩:=h;rfl
def wy{x y}{ae}{owners}(hx:RL x ae)(hy:IL y owners):(AV.agg [x,y]).bP=aa [x,y]:=by obtain⟨k,s,xs,rfl,-⟩:=hx.form;obtain⟨ky,sy,rfl,-⟩:=hy;rfl
def RL.dM{x}{ae}(h:RL x ae):dM ao 22 x=aa (.v (.int .i64 (ae.length:Nat))):=by obtain⟨k,s,xs,rfl,hl⟩:=h.form;have u22:=ji;unfold Go.AE.dM;rw[u22];simp only[bu,hl]
def IL.dM{x}{l}(h:IL x l):dM ao 23 x=aa (.v (.int .i64 (l.length:Nat))):=by obtain⟨k,s,rfl,-⟩:=h;have u23:=dQ;unfold Go.AE.dM;rw[u23];simp only[dD]
def js(ae:List (List Int))(owners aj:List Int):Int:=if cW ae owners≠0 then cW ae owners else if decide (aj.length=bJ ae)&&aj.all bI then 0 else 340
def ah2(h:aq)(x y z:AV)(ae:List (List Int))(owners aj:List Int)(hx:RL x ae)(hy:IL y owners)(hz:IL z aj)(hl:aj.length<=1000000):
 ∃r h',W4.call 129 [.agg [x,y],z] h=aa (r,h')/\Ext h h'/\r=.ret (.v (.int .i64 (js ae owners aj))):=by
 have bx:=wy hx hy;have c1:=Vq x y ae owners hx hy;obtain⟨_,c2,rfl⟩:=Vz (h.push [x,y]) x y ae owners hx hy;have c3:=Kc (pr:=Fx) rfl rfl 168 [] (λn=> !bI n) ((h.push [x,y]).push [x,y]) z aj hz hl (λn _=>avk n _);have l0:=vh (aZ h [x,y]);have ln:=hz.dM;have hp:∀q,q≠0->cW ae owners=q->js ae owners aj=q:=λq h1 h2=>by unfold js;rw[aG (by rw[h2];exact h1),h2]
 have cU:cW ae owners=0->js ae owners aj=if decide (aj.length=bJ ae)&&aj.all bI then 0 else 340:=λh2=>by unfold js;rw[aI (by simp[h2])]
 have kp:=al.mk (aw hp cU);clear hp cU hx hy hz;rw[Ux] at c3;generalize js ae owners aj=res at *
 refine db rfl Tryz.func129 rfl ?_;by_cases h0:cW ae owners=0
 ·rw[h0] at c1;have k0:=kp.out.2 h0;clear h0;by_cases h1:aj.length=bJ ae
  ·have hq:decide ((aj.length:Int)=((bJ ae:Nat):Int))=ah:=bQ ag;rw[bQ h1,ry] at k0;clear h1;cases h2:aj.all bI with
   |true=>rw[h2] at c3 k0;have kr:=al.mk k0;clear h2 k0;refine bK @LU @bg ?_;exact⟨_,_,rfl,(Ext.push _ _).trans (Ext.push _ _),by rw[kr.out];rfl⟩
   |false=>rw[h2] at c3 k0;have kr:=al.mk k0;clear h2 k0;refine bK @LU @bg ?_;exact⟨_,_,rfl,(Ext.push _ _).trans (Ext.push _ _),by rw[kr.out];rfl⟩
  ·have hq:decide ((aj.length:Int)=((bJ ae:Nat):Int))=az:=cE ag;rw[cE h1,yn] at k0;have kr:=al.mk k0;clear h1 k0;refine bK @LU @bg ?_;exact⟨_,_,rfl,(Ext.push _ _).trans (Ext.push _ _),by rw[kr.out];rfl⟩
 ·have kr:=al.mk (kp.out.1 _ h0 rfl);clear kp c2 c3;generalize cW ae owners=q at *
  refine bK @LU @bg ?_;exact⟨_,_,rfl,Ext.push _ _,by rw[kr.out]⟩
def wF(ae:List (List Int))(p:Int × Int):Bool:=decide (0<=p.1)&&decide (p.1<ae.length)&&bX p.2
def K9(n):IL (.list .tight 1 [[.v (.int .i64 n)]]) [n]:=⟨.tight,1,rfl,λ_=>rfl⟩
def apS(h:aq)(x y:AV)(ae:List (List Int))(owners:List Int)(hx:RL x ae)(hy:IL y owners)(a v:Int):
 ∃r h',W4.call 130 [.agg [x,y],.agg [im a,im v]] h=aa (r,h')/\Ext h h'/\r=.ret (.v (.bool (wF ae (a,v)))):=by
 have bx:=wy hx hy;have b2:(AV.agg [im a,im v]).bP=aa [im a,im v]:=rfl;have l0:aH ao Gt ((h.push [x,y]).push [im a,im v]) 22 (.ptr (.box h.boxes.length) 0)=aa x:=rZ (aY (aZ h [x,y]));have l1:=QM (aZ (h.push [x,y]) [im a,im v]);have l2:=QN (aZ (h.push [x,y]) [im a,im v]);have c:=ZI (.list .tight 1 [[.v (.int .i64 v)]]) [v] (K9 v) bE ((h.push [x,y]).push [im a,im v]);rw[(bE:[v].all bX=bX v)] at c;have bl:=pI v;have ln:=hx.dM;clear hx hy;unfold wF;simp only;refine db rfl Tryz.func130 rfl ?_;unfold im at *
 by_cases h1:0<=a
 ·have d1:decide (0<=a)=ah:=bQ h1;by_cases h2:a<ae.length
  ·have d2:decide (a<(ae.length:Int))=ah:=bQ h2;rw[d1,d2];clear h1 h2;refine bA @RZ @bg @dE (aw @Kk @Kl) ?_;exact⟨_,_,rfl,(Ext.push _ _).trans (Ext.push _ _),rfl⟩
  ·have d2:decide (a<(ae.length:Int))=az:=cE h2;rw[d1,d2];clear h1 h2;refine bA @RZ @bg @dE (aw @Kk @Kl) ?_;exact⟨_,_,rfl,(Ext.push _ _).trans (Ext.push _ _),rfl⟩
 ·have d1:decide (0<=a)=az:=cE h1;rw[d1];clear h1;refine bA @RZ @bg @dE (aw @Kk @Kl) ?_;exact⟨_,_,rfl,(Ext.push _ _).trans (Ext.push _ _),rfl⟩
def ajp(bp b)(k)(hb:b.length<=1099511620000)(ht:bp.length<=1099511620000):∀h,W3.call 78 [.v (.string (bs bp)),.list k 1 (a8 b)] h=aa (.ret (im (mU (gx bp b):Nat)),h):=
 bm (L:=L3) (b9:=[.v (.string (bs bp)),.list (bO k) 1 (a8 b)]) rfl (by rw[bN,bN,aC.eq_1,qo];rfl) (by simp[aP,aK,fh,jS]) (ajo bp b _ hb ht _) rfl rfl
def Ws(bp b)(k)(hb:b.length<=1099511620000)(ht:bp.length<=1099511620000):∀h,W4.call 78 [.v (.string (bs bp)),.list k 1 (a8 b)] h=aa (.ret (im (mU (gx bp b):Nat)),h):=
 bm (L:=L4) (b9:=[.v (.string (bs bp)),.list (bO k) 1 (a8 b)]) rfl (by rw[bN,bN,aC.eq_1,qo];rfl) (by simp[aP,aK,fh,jS]) (ajp bp b _ hb ht _) rfl rfl
def aio{v}{r}(hv:da v r)(hd:gE v<=16)(hl:(dK v).length<=1099511600000):∃t,∀h,W3.call 146 [.agg r] h=aa (.ret (.tuple [.list t 1 (a8 (dK v)),.v (.int .i64 0)]),h):=by obtain⟨h1,h2⟩:=da.hold v r hv;obtain⟨t,hc⟩:=ain h1 hd hl;exact⟨bO t,bm (L:=L3) (b9:=[.agg (bN r)]) rfl rfl (by simpa [aP,aK] using h2) (hc _) rfl (by simp[aK,aP,fh,jS])⟩
def VU{v}{r}(hv:da v r)(hd:gE v<=16)(hl:(dK v).length<=1099511600000):∃t,∀h,W4.call 146 [.agg r] h=aa (.ret (.tuple [.list t 1 (a8 (dK v)),.v (.int .i64 0)]),h):=by obtain⟨h1,h2⟩:=da.hold v r hv;obtain⟨t,hc⟩:=aio h1 hd hl;exact⟨bO t,bm (L:=L4) (b9:=[.agg (bN r)]) rfl rfl (by simpa [aP,aK] using h2) (hc _) rfl (by simp[aK,aP,fh,jS])⟩
def IM:Tryz.f112.results.toList=[.cell 2 96]:=av
def arn:Tryz.f114.results.toList=[.tmp 4]:=av
def Mj:Tryz.f79.results.toList=[.tmp 2]:=av
inductive vC:AV->Vl->Prop
 |int (n:Int) (hn:0<=n/\n<=4611686018427387903):vC (.iface 3 (.v (.int .i64 n))) (.int n)
 |text (k:Tok) (s:Nat) (b:List UInt8) (hs:b≠[]->s=1) (hb:b.length<=1099511620000):vC (.iface 28 (.list k s (a8 b))) (.text b)
 |val (v:Vl) (r:List AV) (h:da v r):vC (.iface 96 (.agg r)) v
def uF(xs:List AV)(vs:List Vl):Prop:=xs.length=vs.length/\∀(i:Nat) x v,xs[i]?=aa x->vs[i]?=aa v->vC x v
def uF.nil:uF [] []:=⟨rfl,λi x v h=>by simp at h⟩
def uF.cons{x}{v}{xs}{vs}(h:vC x v)(hs:uF xs vs):uF (x::xs) (v::vs):=by
 refine⟨by simp[hs.1],λi y w hy hw=>?_⟩;cases i with|zero=>simp at hy hw;subst hy;subst hw;exact h|succ i=>simp at hy hw;exact hs.2 i y w hy hw
def UG(x):yJ ao (.iface 3 x) 3 ah=aa (.tuple [x,.v (.bool ah)]):=av
def UF(x):yJ ao (.iface 28 x) 3 ah=aa (.tuple [.v (.int .i64 0),.v (.bool az)]):=av
def UD(x):yJ ao (.iface 28 x) 28 ah=aa (.tuple [x,.v (.bool ah)]):=av
def aeU(x):yJ ao (.iface 96 x) 3 ah=aa (.tuple [.v (.int .i64 0),.v (.bool az)]):=av
def aeT(x):yJ ao (.iface 96 x) 28 ah=aa (.tuple [.list .nil 0 [],.v (.bool az)]):=av
def aeV(x):yJ ao (.iface 96 x) 96 ah=aa (.tuple [x,.v (.bool ah)]):=av
def Kd{k}{s}{b}(hs:b≠[]->s=1)(h):nL ao h 28 9 (.list k s (a8 b))=aa (.v (.string (bs b)),h):=by
 have h1:ao.underlying 9=aa .string:=Tryz.underlying9;have h2:ao.underlying 28=aa (.slice 5):=jz;have h3:ao.underlying 5=aa (.int .u8):=Tryz.underlying5;unfold nL;simp only[h1,h2,h3,rowsOf];rw[aG (by
  by_cases hb:b=[]
  ·exact .inr (by rw[hb];rfl)
  ·exact .inl (hs hb))]
 have xA:∀l:List UInt8,bytesOf (a8 l)=aa l:=by
  intro l
  induction l with
  |nil=>rfl|cons a l ih=>show(match Go.AE.byteOf (lh a),bytesOf (a8 l) with|some b,aa l=>aa (b::l)|_,_=>au)=_;rw[ih];simp[Go.AE.byteOf,lh]
 simp only[xA,ff];rfl
def BQ{r}(hr:r.length=4)(hc:(AV.agg r).bP=aa r):gf ao 94 1 [(0,.agg r)]=aa (.list .tight 4 [r]):=by have h1:ao.underlying 94=aa (.slice 96):=qg;unfold gf;simp only[h1,qy,yk];rw[aG ⟨aV,rfl,by decide⟩];simp[Ep,hc,hr]
def YL:∃i,ao.info? 96=aa i/\i.size=4/\i.bytes<=64/\(i.zero.map λz=>z.cells.size)=aa 4:=by
 have h:(match ao.info? 96 with|some i=>jQ i.size 4&&NA i.bytes 64&&decide ((i.zero.map λz=>z.cells.size)=aa 4)|none=>az)=ah:=av;cases hi:ao.info? 96 with
 |none=>rw[hi] at h;cases h
 |some i=>rw[hi] at h;simp only[bC,decide_eq_true_eq] at h;exact⟨i,rfl,jW h.1.1,jR h.1.2,h.2⟩
def BN{H}{k}{n0 sz}{es}{r}(hl:es.length<1000000)(hs:es≠[]->sz=4)(h0:es=[]->sz=4∨k=.nil)(hk:dm n0 H k):
 gN ao H #[94,94] (.list k sz es) (.list .tight 4 [r])=aa (.list (.free H.tn) 4 (es++[r]),H.app k):=by
 obtain⟨i,h1,q2,q3,h4⟩:=YL;have hb:=qG (ag:es.length+1<=1000000) q3;have:=GO (P:=ao) (h:=H) (n0:=n0) (k:=k) (sz:=sz) (es:=es) (new:=[r]) (x:=.list .tight 4 [r]) (t1:=94) qg (.inl ⟨96,qg⟩) h1 ag (by rw[q2];exact h4) (by rw[q2];rfl) bE (by simp;omega) (by simp;omega) (by
  rw[q2];by_cases he:es=[]
  ·rcases h0 he with q|q
   ·exact .inl q
   ·exact .inr ⟨he,q⟩
  ·exact .inl (hs he)) hk
 rwa [q2] at this
structure qH(h H:aq)(c:Nat)(vs:List Vl)(t:Tok)(sz:Nat)(ae:List (List AV)):Prop where
 box:H.boxes[c]?=aa (aL 3 0 [] t sz ae)
 can:dm h.tn H t
 ok:cG H=ah
 ext:Ext h H
 out:h.boxes.length<=c
 rel:ou vs ae
 four:ae≠[]->sz=4
 nil:ae=[]->sz=4∨t=.nil
 fit:gQ 0 0 0 ae=ah
def V7:∀(ae:List (List AV)) (r:List AV),gQ 0 0 0 ae=ah->aP 0 0 0 r=ah->gQ 0 0 0 (ae++[r])=ah
 | [],r,_,h=>by rw[lJ,gQ,h];rfl
 |a::ae,r,h1,h2=>by rw[gQ,bC] at h1;rw[kL,gQ,h1.1,V7 ae r h1.2 h2];rfl
def qH.push{h H}{c}{vs}{t}{sz}{ae}(g:qH h H c vs t sz ae)(cs):qH h (H.push cs) c vs t sz ae:=
 ⟨aY g.box,by rw[An];exact g.can,g.ok,g.ext.trans (.push _ _),g.out,g.rel,g.four,g.nil,g.fit⟩
def qH.put{h H}{c}{vs}{t}{sz}{ae}(g:qH h H c vs t sz ae){v}{r}(hv:da v r)(hf:aP 0 0 0 r=ah):
 qH h ((H.app t).put c (aL 3 0 [] (.free H.tn) 4 (ae++[r]))) c (vs++[v]) (.free H.tn) 4 (ae++[r]):=by
 have hc:=(aS.1 g.box).1;have gr:=Grown.one g.can g.ok g.ext.tn;refine⟨eu (by rw[ec];exact hc),by rw[BU];exact gr.can,gr.ok,(gr.ext g.ext (aJ _)).fK g.out _,g.out,⟨by simp[g.rel.1],λi w x hw hx=>?_⟩,λ_=>rfl,λ_=>.inl rfl,V7 _ _ g.fit hf⟩;rcases dW i ae.length with aA|eg
 ·rw[sH aA] at hx;rw[sH (by rw[<-g.rel.1];exact aA)] at hw;exact g.rel.2 i w x hw hx
 ·have:=(aS.1 hx).1;rw[dw] at this;have he:i=ae.length:=by simp at this;omega
  subst he;rw[Gk] at hx;rw[g.rel.1,Gk] at hw;injection hx with hx;injection hw with hw;subst hx;subst hw;exact hv
def Dp{H}{c}{t t2}{sz sz2}{ae rows2}(hb:H.boxes[c]?=aa (aL 3 0 [] t sz ae)):b7 ao H 94 (.ptr (.box c) 3) (.list t2 sz2 rows2)=aa (H.put c (aL 3 0 [] t2 sz2 rows2)):=
 fA (off:=3) (cs:=aL 3 0 [] t sz ae) (xs:=[.list t2 sz2 rows2]) rfl av hb rfl (aJ 4)
def atF{H:aq}:b7 ao (H.push (aL 0 0 [] .nil 0 [])) 3 (.ptr (.box H.boxes.length) 0) (.v (.int .i64 3))=aa (H.push (aL 3 0 [] .nil 0 [])):=by rw[fA (off:=0) (cs:=aL 0 0 [] .nil 0 []) (xs:=[.v (.int .i64 3)]) rfl fP (aZ _ _) rfl aV];congr 1;exact pc _ _ _
def YZ{H}{xs:List AV}{i s}{x}(h:xs[i]?=aa x):aH ao Gt H 20 (.elem s (xs.map λa=>[a]) i 0)=aa x:=by rw[r8 av (row:=[x]) (by rw[ej,h];rfl)];rfl
def abY:dt ao 20=aa 1:=av
def vC.agC{x}{v}(h:vC x v):(∃n,x=.iface 3 (.v (.int .i64 n))/\v=.int n/\0<=n/\n<=4611686018427387903)∨(∃k s b,x=.iface 28 (.list k s (a8 b))/\v=.text b/\(b≠[]->s=1)/\b.length<=1099511620000)∨∃r,x=.iface 96 (.agg r)/\da v r:=by
 cases h with|int n hn=>exact .inl ⟨n,rfl,rfl,hn.1,hn.2⟩|text k s b hs hb=>exact .inr (.inl ⟨k,s,b,rfl,rfl,hs,hb⟩)|val v r h=>exact .inr (.inr ⟨r,rfl,h⟩)
def QY(h:aq)(bq:cG h=ah)(k:Tok)(s:Nat)(xs:List AV)(vs:List Vl)(hr:uF xs vs)(hs:xs≠[]->s=1)(hl:xs.length<=1000)(hf:∀a∈xs,aK 0 0 0 a=ah):
 ∃r h',W4.call 112 [.list k s (xs.map λa=>[a])] h=aa (r,h')/\Ext h h'/\∃t sz ae,r=.ret (.agg (aL 3 0 [] t sz ae))/\da (.list vs) (aL 3 0 [] t sz ae)/\gQ 0 0 0 ae=ah/\(xs.length=0->t=.nil/\sz=0/\ae=[]):=by
 have kr:=al.mk (aw hr (aw hs hf));clear hr hs hf;have z:=yk;have u180:=ad0;have u94:=qg;have z20:=abY;have cS:(xs.map λa=>[a]).length=xs.length:=bu _;have G0:qH h (h.push (aL 3 0 [] .nil 0 [])) h.boxes.length (vs.take 0) .nil 0 []:=⟨aZ _ _,.inl rfl,bq,.push _ _,aJ _,⟨rfl,λi v r q=>by simp at q⟩,λq=>absurd rfl q,λ_=>.inr rfl,rfl⟩;refine db rfl Tryz.func112 rfl ?_;refine bA @IM @fS @atF @kK ?_;refine bH.gen λe0 aF bB cU cN=>?_;have f2:e0.get 2=.ptr (.box h.boxes.length) 0:=by rw[aF];exact gS
 have f9:e0.get 9=.list k s (xs.map λa=>[a]):=by rw[aF];exact gS
 have f10:e0.get 10=.v (.int .i64 (xs.length:Nat)):=by rw[aF];exact gS
 have f11:e0.get 11=.v (.int .i64 (0:Nat)):=by rw[aF];exact gR
 have fd:e0.defers=[]:=by rw[bB];exact gS
 clear aF bB cU cN;refine cz (λm e H=>∃(i:Nat) (t:Tok) (sz:Nat) (ae:List (List AV)),i<=xs.length/\m=xs.length - i/\al (qH h H h.boxes.length (vs.take i) t sz ae)/\al (i=0->t=.nil/\sz=0/\ae=[])/\e.get 2=.ptr (.box h.boxes.length) 0/\e.get 9=.list k s (xs.map λa=>[a])/\e.get 10=.v (.int .i64 (xs.length:Nat))/\e.get 11=.v (.int .i64 (i:Nat))/\e.defers=[]) ?_ xs.length _ _ ?_;rotate_left 1
 ·exact⟨0,.nil,0,[],cA _,rfl,⟨G0⟩,⟨λ_=>⟨rfl,rfl,rfl⟩⟩,f2,f9,f10,f11,fd⟩
 clear f2 f9 f10 f11 fd G0;rintro m e H ⟨i,t,sz,ae,hi,rfl,kG,kN,g2,g9,g10,g11,hd⟩;by_cases aA:i<xs.length
 ·have bD:s=1:=kr.out.2.1 (by intro q;rw[q] at aA;simp at aA);subst bD;obtain⟨x,hx⟩:∃x,xs[i]?=aa x:=⟨_,aR aA⟩;obtain⟨v,hv⟩:∃v,vs[i]?=aa v:=⟨_,aR (by have:=kr.out.1.1;omega)⟩;have A4:=kr.out.1.2 i x v hx hv;have AN:=kr.out.2.2 x (dj hx);have ld:=YZ (H:=H) (s:=1) hx;have kst:=al.mk (ft hv);have cP:ae.length<1000000:=by have:=kG.out.rel.1;rw[eS] at this;omega
  have fx:(i:Int)<(xs.length:Int):=by omega
  clear hx hv;rcases A4.agC with⟨n,rfl,rfl,iE,uj⟩|⟨kb,sb,b,rfl,rfl,lu,fT⟩|⟨r,rfl,iK⟩
  ·have iK:da (.int n) (aL 1 n [] .nil 0 []):=.int n ⟨iE,uj⟩;have kG2:=al.mk (kG.out.put iK rfl);have l3:=oD kG.out.box;have ap:=BN (r:=aL 1 n [] .nil 0 []) cP kG.out.four kG.out.nil kG.out.can;have bl:=BQ (r:=aL 1 n [] .nil 0 []) rfl rfl;have st:=Dp (H:=H.app t) (t2:=.free H.tn) (sz2:=4) (rows2:=ae++[aL 1 n [] .nil 0 []]) (by rw[ec];exact kG.out.box);rw[<-kst.out] at kG2;clear iK iE uj A4 AN;refine bA @IM @fS @bh (aw @UG @N4) ?_;exact⟨xs.length - (i+1),by omega,i+1,_,_,_,by omega,rfl,kG2,⟨λq=>absurd q (TP _)⟩,by simp⟩
  ·have iK:da (.text b) (aL 2 0 b .nil 0 []):=.text b fT;have kG2:=al.mk (kG.out.put iK rfl);have l3:=oD kG.out.box;have ap:=BN (r:=aL 2 0 b .nil 0 []) cP kG.out.four kG.out.nil kG.out.can;have bl:=BQ (r:=aL 2 0 b .nil 0 []) rfl rfl;have cv:=Kd (k:=kb) lu;have st:=Dp (H:=H.app t) (t2:=.free H.tn) (sz2:=4) (rows2:=ae++[aL 2 0 b .nil 0 []]) (by rw[ec];exact kG.out.box);rw[<-kst.out] at kG2;clear iK lu fT A4 AN;refine bA @IM @fS @bh (aw @UF (aw @UD @N5)) ?_;exact⟨xs.length - (i+1),by omega,i+1,_,_,_,by omega,rfl,kG2,⟨λq=>absurd q (TP _)⟩,by simp⟩
  ·have xF:aP 0 0 0 r=ah:=(by simpa [aK] using AN);have kG1:=kG.out.push r;have kG2:=al.mk (kG1.put iK xF);have l3:=oD kG1.box;have l4:=qt iK.len (aZ H r);have ap:=BN (r:=r) cP kG1.four kG1.nil kG1.can;have bl:=BQ (r:=r) iK.len iK.cells;have st0:=SR (H:=H) iK;have st:=Dp (H:=(H.push r).app t) (t2:=.free (H.push r).tn) (sz2:=4) (rows2:=ae++[r]) (by rw[ec];exact kG1.box);rw[<-kst.out] at kG2;clear iK A4 kG1 AN xF;refine bA @IM @fS @bh (aw @aeU (aw @aeT @aeV)) ?_;exact⟨xs.length - (i+1),by omega,i+1,_,_,_,by omega,rfl,kG2,⟨λq=>absurd q (TP _)⟩,by simp⟩
 ·have fF:i=xs.length:=by omega
  subst fF;have hG:=kG.out;rw[gm (by rw[kr.out.1.1];exact aJ _)] at hG;have hv:da (.list vs) (aL 3 0 [] t sz ae):=.list vs t sz ae hG.rel.1 hG.four (by have:=hG.rel.1;have:=kr.out.1.1;omega) hG.rel.2;have ld:=qt hv.len hG.box;have st:b7 ao H 96 (.ptr (.box h.boxes.length) 0) (.agg (aL 3 0 [] t sz ae))=aa H:=by rw[fA kK qy hG.box rfl (aJ 4),wK rfl];rw[nb hG.box]
  have kv:=al.mk (aw hv (aw hG.ext hG.fit));clear hv hG;refine br @IM ?_;exact⟨_,_,rfl,kv.out.2.1,_,_,_,rfl,kv.out.1,kv.out.2.2,kN.out⟩
def bd3:mz ao 96 [(0,.v (.int .i64 3))]=aa (.agg (aL 3 0 [] .nil 0 [])):=av
inductive yA:AV->Vl->Prop
 |int (n:Int) (hn:0<=n/\n<=4611686018427387903):yA (.iface 3 (.v (.int .i64 n))) (.int n)
 |text (k:Tok) (s:Nat) (b:List UInt8) (hs:b≠[]->s=1) (hb:b.length<=1099511620000):yA (.iface 28 (.list k s (a8 b))) (.text b)
def wU(xs:List AV)(vs:List Vl):Prop:=xs.length=vs.length/\∀(i:Nat) x v,xs[i]?=aa x->vs[i]?=aa v->yA x v
def wU.nil:wU [] []:=⟨rfl,λi x v h=>by simp at h⟩
def wU.cons{x}{v}{xs}{vs}(h:yA x v)(hs:wU xs vs):wU (x::xs) (v::vs):=by
 refine⟨by simp[hs.1],λi y w hy hw=>?_⟩;cases i with|zero=>simp at hy hw;subst hy;subst hw;exact h|succ i=>simp at hy hw;exact hs.2 i y w hy hw
def yA.agB{x}{v}(h:yA x v):(∃n,x=.iface 3 (.v (.int .i64 n))/\v=.int n/\0<=n/\n<=4611686018427387903)∨(∃k s b,x=.iface 28 (.list k s (a8 b))/\v=.text b/\(b≠[]->s=1)/\b.length<=1099511620000):=by
 cases h with|int n hn=>exact .inl ⟨n,rfl,rfl,hn.1,hn.2⟩|text k s b hs hb=>exact .inr ⟨k,s,b,rfl,rfl,hs,hb⟩
def ami(h:aq)(bq:cG h=ah)(k:Tok)(s:Nat)(xs:List AV)(vs:List Vl)(hr:wU xs vs)(hs:xs≠[]->s=1)(hl:xs.length<=1000)(AK:gE (.list vs)<=16)(AL:(dK (.list vs)).length<=1099511600000):
 ∃r h',W4.call 79 [.list k s (xs.map λa=>[a])] h=aa (r,h')/\∃t,r=.ret (.list t 1 (a8 (dK (.list vs)))):=by
 have kr:=al.mk (aw hr (aw hs (aw AK AL)));clear hr hs AK AL;have z:=yk;have u180:=ad0;have u94:=qg;have z20:=abY;have cS:(xs.map λa=>[a]).length=xs.length:=bu _;have G0:qH h (h.push (aL 3 0 [] .nil 0 [])) h.boxes.length (vs.take 0) .nil 0 []:=⟨aZ _ _,.inl rfl,bq,.push _ _,aJ _,⟨rfl,λi v r q=>by simp at q⟩,λq=>absurd rfl q,λ_=>.inr rfl,rfl⟩;refine db rfl Tryz.func79 rfl ?_;refine bA @Mj @fS @bd3 (aw @MD @kK) ?_;refine bH.gen λe0 aF bB cU cN=>?_;have f2:e0.get 3=.ptr (.box h.boxes.length) 0:=by rw[aF];exact gS
 have f9:e0.get 11=.list k s (xs.map λa=>[a]):=by rw[aF];exact gS
 have f10:e0.get 12=.v (.int .i64 (xs.length:Nat)):=by rw[aF];exact gS
 have f11:e0.get 13=.v (.int .i64 (0:Nat)):=by rw[aF];exact gR
 have fd:e0.defers=[]:=by rw[bB];exact gS
 clear aF bB cU cN;refine cz (λm e H=>∃(i:Nat) (t:Tok) (sz:Nat) (ae:List (List AV)),i<=xs.length/\m=xs.length - i/\al (qH h H h.boxes.length (vs.take i) t sz ae)/\e.get 3=.ptr (.box h.boxes.length) 0/\e.get 11=.list k s (xs.map λa=>[a])/\e.get 12=.v (.int .i64 (xs.length:Nat))/\e.get 13=.v (.int .i64 (i:Nat))/\e.defers=[]) ?_ xs.length _ _ ?_;rotate_left 1
 ·exact⟨0,.nil,0,[],cA _,rfl,⟨G0⟩,f2,f9,f10,f11,fd⟩
 clear f2 f9 f10 f11 fd G0;rintro m e H ⟨i,t,sz,ae,hi,rfl,kG,g3,g11,g12,g13,hd⟩;by_cases aA:i<xs.length
 ·have bD:s=1:=kr.out.2.1 (by intro q;rw[q] at aA;simp at aA);subst bD;obtain⟨x,hx⟩:∃x,xs[i]?=aa x:=⟨_,aR aA⟩;obtain⟨v,hv⟩:∃v,vs[i]?=aa v:=⟨_,aR (by have:=kr.out.1.1;omega)⟩;have A4:=kr.out.1.2 i x v hx hv;have ld:=YZ (H:=H) (s:=1) hx;have kst:=al.mk (ft hv);have cP:ae.length<1000000:=by have:=kG.out.rel.1;rw[eS] at this;omega
  have fx:(i:Int)<(xs.length:Int):=by omega
  clear hx hv;rcases A4.agB with⟨n,rfl,rfl,iE,uj⟩|⟨kb,sb,b,rfl,rfl,lu,fT⟩
  ·have iK:da (.int n) (aL 1 n [] .nil 0 []):=.int n ⟨iE,uj⟩;have kG2:=al.mk (kG.out.put iK rfl);have l3:=oD kG.out.box;have ap:=BN (r:=aL 1 n [] .nil 0 []) cP kG.out.four kG.out.nil kG.out.can;have bl:=BQ (r:=aL 1 n [] .nil 0 []) rfl rfl;have st:=Dp (H:=H.app t) (t2:=.free H.tn) (sz2:=4) (rows2:=ae++[aL 1 n [] .nil 0 []]) (by rw[ec];exact kG.out.box);rw[<-kst.out] at kG2;clear iK iE uj A4;refine bA @Mj @fS @bh (aw @UG @N4) ?_;exact⟨xs.length - (i+1),by omega,i+1,_,_,_,by omega,rfl,kG2,by simp⟩
  ·have iK:da (.text b) (aL 2 0 b .nil 0 []):=.text b fT;have kG2:=al.mk (kG.out.put iK rfl);have l3:=oD kG.out.box;have ap:=BN (r:=aL 2 0 b .nil 0 []) cP kG.out.four kG.out.nil kG.out.can;have bl:=BQ (r:=aL 2 0 b .nil 0 []) rfl rfl;have cv:=Kd (k:=kb) lu;have st:=Dp (H:=H.app t) (t2:=.free H.tn) (sz2:=4) (rows2:=ae++[aL 2 0 b .nil 0 []]) (by rw[ec];exact kG.out.box);rw[<-kst.out] at kG2;clear iK lu fT A4;refine bA @Mj @fS @bh (aw @UF (aw @UD @N5)) ?_;exact⟨xs.length - (i+1),by omega,i+1,_,_,_,by omega,rfl,kG2,by simp⟩
 ·have fF:i=xs.length:=by omega
  subst fF;have hG:=kG.out;rw[gm (by rw[kr.out.1.1];exact aJ _)] at hG;have hv:da (.list vs) (aL 3 0 [] t sz ae):=.list vs t sz ae hG.rel.1 hG.four (by have:=hG.rel.1;have:=kr.out.1.1;omega) hG.rel.2;have ld:=qt hv.len hG.box;obtain⟨te,ce⟩:=VU hv kr.out.2.2.1 kr.out.2.2.2;clear hv hG;refine br @Mj ?_;exact⟨_,_,rfl,_,rfl⟩
def aj1(h:aq)(bq:cG h=ah)(bp:List UInt8)(k:Tok)(s:Nat)(xs:List AV)(vs:List Vl)(hr:uF xs vs)(hs:xs≠[]->s=1)(hl:xs.length<=1000)(hf:∀a∈xs,aK 0 0 0 a=ah)(ht:bp.length<=1099511620000)(AK:gE (.list vs)<=16)(AL:(dK (.list vs)).length<=1099511600000):
 ∃r h',W4.call 114 [.v (.string (bs bp)),.list k s (xs.map λa=>[a])] h=aa (r,h')/\r=.ret (im ((ua bp (.list vs):Nat):Int)):=by
 obtain⟨_,h1,c1,-,t,sz,ae,rfl,hv,-,-⟩:=QY h bq k s xs vs hr hs hl hf;obtain⟨te,ce⟩:=VU hv AK AL;have cg:=Ws bp (dK (.list vs)) te ag ht;have e:mU (gx bp (dK (.list vs)))=ua bp (.list vs):=rfl;rw[e] at cg;generalize ua bp (.list vs)=n at *
 unfold im at *
 clear hr hs hl hv hf e;refine db rfl Tryz.func114 rfl ?_;refine br @arn ?_;exact⟨_,_,rfl,rfl⟩
def ajC(n:Nat)(h0:0<n)(hn:n<=1099511627776)(H:aq):W4.call 158 [.list .nil 0 [],.v (.int .i64 (n:Nat))] H=aa (.ret (.arr H.boxes.length 0 0 n),H.push (a9 n [im 0]).flatten):=by
 have u23:=dQ;have a:=ae1 (H:=H) h0 hn;have e1:IntKind.i64.wrap ((0:Int) - 0)=0:=by rfl
 have e2:IntKind.i64.wrap (((n:Nat):Int) - 0)=((n:Nat):Int):=by rw[DR,fN ag ag]
 have s2:iN ao 23 (.arr H.boxes.length 0 n n) au (aa (.v (.int .i64 (0:Nat)))) au=aa (.arr H.boxes.length 0 0 n):=abo u23 fP aV aV ag h0;have s2:iN ao 23 (.arr H.boxes.length 0 n n) au (aa (.v (.int .i64 0))) au=aa (.arr H.boxes.length 0 0 n):=s2;have aA:(0:Int)<(n:Nat):=by omega
 refine cJ rfl adR rfl ?_;exact Kz @aaR @GX @Ve (aw @abp (aw @kQ.{0} (aw @tK @DR)))
def ajB(H:aq):W4.call 158 [.list .nil 0 [],.v (.int .i64 (0:Nat))] H=aa (.ret (.list .nil 0 []),H):=by
 have u23:=dQ;refine cJ rfl adR rfl ?_;have e1:IntKind.i64.wrap ((0:Int) - 0)=0:=by rfl
 have e2:IntKind.i64.wrap (((0:Nat):Int) - 0)=0:=by rfl
 exact Kz @aaR @GX @Ve (aw @abp (aw @kQ.{0} (aw @tK @DR)))
def ahx(k:Tok)(xs:List AV)(dk:List (List (List AV)))(hl:xs.length=dk.length)(H:aq)(hs:∀(i:Nat) x rs,xs[i]?=aa x->dk[i]?=aa rs->dT 1 H x rs)(hb:dk.flatten.length<=1099511627776)(dN:xs.length<=1000):
 ∃r H',W4.call 109 [.list k 1 (xs.map λx=>[x])] H=aa (r,H')/\∃y,r=.ret y/\Ext H H'/\dT 1 H' y dk.flatten:=by
 have u23:=dQ;have u22:=ji;have aE:=aex;have sE:=il;have hr:∀(i:Nat) x,xs[i]?=aa x->(xs.map λx=>[x])[i]?=aa [x]:=λi x hx=>by rw[ej,hx];rfl
 have eO:∀i,(dk.take i).flatten.length<=1099511627776:=λi=>by
  refine Nat.le_trans ?_ hb
  conv=>rhs;rw[<-yz i dk,rC,dw]
  omega
 have jc:∀(i:Nat) rs,dk[i]?=aa rs->(dk.take (i+1)).flatten=(dk.take i).flatten++rs:=λi rs hi=>by rw[ft hi,rC];simp
 have kS:=al.mk hs;have kl:=al.mk hl;have kr:=al.mk hr;have kst:=al.mk jc;have kle:=al.mk eO;have nx:(xs.map λx=>[x]).length=xs.length:=by simp
 clear hs hr jc eO hl;generalize hM:(xs.map λx=>[x])=M at *
 refine db rfl Tryz.func109 rfl ?_;refine br @Bh ?_;refine cz (λm e h'=>∃i:Nat,i<=xs.length/\m=xs.length - i/\e.get 0=.list k 1 M/\e.get 9=.list k 1 M/\e.get 10=.v (.int .i64 (xs.length:Nat))/\e.get 11=.v (.int .i64 i)/\e.get 3=.v (.int .i64 ((dk.take i).flatten.length:Nat))/\e.get 2=.list .nil 0 []/\e.defers=[]/\h'=H) ?_ xs.length _ _ ?_;rotate_left 1
 ·refine⟨0,cA _,rfl,?_,?_,?_,?_,?_,?_,?_,rfl⟩<;>(first|assumption|(simp only[gW,reduceIte,aO,aM,nx]<;>rfl))
 rintro m e h' ⟨i,hi,rfl,g0,g9,g10,g11,g3,g2,hd,rfl⟩;by_cases aA:i<xs.length
 ·obtain⟨x,hx⟩:∃x,xs[i]?=aa x:=⟨_,aR aA⟩;obtain⟨rs,jE⟩:∃rs,dk[i]?=aa rs:=⟨_,aR (by have:=kl.out;omega)⟩;have s1:=kS.out i x rs hx jE;have ls:=s1.len u23;have vY:=kr.out i x hx;have CB:(i:Int)<(M.length:Int):=by omega
  have q:=kst.out i rs jE;have q1:=kle.out (i+1);rw[q,dw] at q1;have ksum:=al.mk (show(dk.take (i+1)).flatten.length=(dk.take i).flatten.length+rs.length by rw[q,dw]);generalize (dk.take i).flatten.length=n1 at *
  have e1:IntKind.i64.wrap (((n1:Nat):Int)+((rs.length:Nat):Int))=((n1+rs.length:Nat):Int):=by rw[fN ag ag];omega
  have nn:¬(((n1+rs.length:Nat):Int)<0):=by omega
  have ld:aH ao Gt h' 23 (.elem 1 M i 0)=aa x:=by rw[r8 aE vY];rfl
  clear q q1 s1;refine bK @Bh @bh ?_;exact⟨xs.length - (i+1),by omega,i+1,by omega,rfl,by trivial,by trivial,by trivial,by simp,by rw[ksum.out],by trivial,by trivial,by trivial⟩
 have:i=xs.length:=by omega
 subst this;rw[show dk.take xs.length=dk by rw[kl.out];exact fC] at g3;have hn:=kle.out xs.length;rw[show dk.take xs.length=dk by rw[kl.out];exact fC] at hn;generalize hN:dk.flatten.length=n at *
 rcases Gy n with h0|h0
 ·subst h0;have gn:=ajB h';have pT:dk.flatten=[]:=List.eq_nil_of_length_eq_zero hN;refine br @Bh ?_;refine cz (λm e H1=>∃i:Nat,i<=xs.length/\m=xs.length - i/\e.get 25=.list k 1 M/\e.get 26=.v (.int .i64 (xs.length:Nat))/\e.get 27=.v (.int .i64 i)/\e.get 6=.list .nil 0 []/\e.defers=[]/\H1=h') ?_ xs.length _ _ ?_;rotate_left 1
  ·refine⟨0,cA _,rfl,?_,?_,?_,?_,?_,rfl⟩<;>(first|assumption|(simp only[gW,reduceIte,aO,aM,nx]<;>rfl))
  clear g0 g9 g10 g11 g3 g2 hd gn;rintro m e H1 ⟨i,hi,rfl,g25,g26,g27,g6,hd,rfl⟩;by_cases aA:i<xs.length
  ·obtain⟨x,hx⟩:∃x,xs[i]?=aa x:=⟨_,aR aA⟩;obtain⟨rs,jE⟩:∃rs,dk[i]?=aa rs:=⟨_,aR (by have:=kl.out;omega)⟩;have s1:=kS.out i x rs hx jE;have Qo:rs=[]:=by
    have:=dj jE;cases rs with|nil=>rfl|cons a l=>exact absurd (Nq.2 ⟨_,this,fW⟩) (by rw[pT];exact vH)
   subst Qo;have an:=aeE s1;have vY:=kr.out i x hx;have CB:(i:Int)<(M.length:Int):=(by omega);have ld:aH ao Gt H1 23 (.elem 1 M i 0)=aa x:=(by rw[r8 aE vY];rfl);clear s1;refine bK @Bh @bh ?_;exact⟨xs.length - (i+1),by omega,i+1,by omega,rfl,by trivial,by trivial,by simp,by trivial,by trivial,by trivial⟩
  ·have:i=xs.length:=(by omega);subst this;refine br @Bh ?_;exact⟨_,_,rfl,_,rfl,Ext.refl _,by(try rw[pT]);exact dT.list (λr hr=>by cases hr) (λq=>absurd rfl q)⟩
 ·have gn:=ajC n h0 hn h';refine br @Bh ?_;rw[RQ];have CN:∀(i:Nat) rs,dk[i]?=aa rs->∀r∈rs,r.length=1:=λi rs hi=>by obtain⟨x,hx⟩:∃x,xs[i]?=aa x:=⟨_,aR (by rw[kl.out];exact(aS.1 hi).1)⟩;exact(kS.out i x rs hx hi).1
  have jD:∀i,∀r∈(dk.take i).flatten,r.length=1:=λi r hr=>by obtain⟨rs,h1,h2⟩:=Nq.1 hr;obtain⟨j,hj⟩:=List.mem_iff_getElem?.1 (pE h1);exact CN j rs hj r h2
  have oV:∀i,(dk.take i).flatten.flatten.length=(dk.take i).flatten.length:=λi=>by rw[nN (jD i),oN]
  have HL:∀i,(dk.take i).flatten.length<=n:=λi=>by
   rw[<-hN]
   conv=>rhs;rw[<-yz i dk,rC,dw]
   omega
  have kfl:=al.mk oV;have kmo:=al.mk HL;have kr2:=al.mk jD;clear CN oV HL jD gn;refine cz (λm e H1=>∃i:Nat,i<=xs.length/\m=xs.length - i/\e.get 25=.list k 1 M/\e.get 26=.v (.int .i64 (xs.length:Nat))/\e.get 27=.v (.int .i64 i)/\e.get 6=.arr h'.boxes.length 0 (dk.take i).flatten.length n/\e.defers=[]/\H1.boxes[h'.boxes.length]?=aa ((dk.take i).flatten.flatten++a9 (n - (dk.take i).flatten.length) (im 0))/\Ext h' H1) ?_ xs.length _ _ ?_;rotate_left 1
  ·refine⟨0,cA _,rfl,?_,?_,?_,?_,?_,?_,Ext.push _ _⟩<;>(first|assumption|exact aZ _ _|(simp only[gW,reduceIte,aO,aM,nx]<;>rfl))
  clear g0 g9 g10 g11 g3 g2 hd;rintro m e H1 ⟨i,hi,rfl,g25,g26,g27,g6,hd,hB,hX⟩;by_cases aA:i<xs.length
  ·obtain⟨x,hx⟩:∃x,xs[i]?=aa x:=⟨_,aR aA⟩;obtain⟨rs,jE⟩:∃rs,dk[i]?=aa rs:=⟨_,aR (by have:=kl.out;omega)⟩;have s1:=(kS.out i x rs hx jE).ext hX;have q:=kst.out i rs jE;have m1:=kmo.out (i+1);have f0:=kfl.out i;have A1:(dk.take (i+1)).flatten.length=(dk.take i).flatten.length+rs.length:=(by rw[q,dw]);rw[A1] at m1;have Qp:rs.flatten.length=rs.length:=(by rw[nN s1.1,oN]);have ap:=ad4 s1 hB m1 (by rw[dw,List.length_replicate,f0];omega);have mh:eX ((dk.take i).flatten.flatten++a9 (n - (dk.take i).flatten.length) (im 0)) (dk.take i).flatten.length rs.flatten=(dk.take (i+1)).flatten.flatten++a9 (n - (dk.take (i+1)).flatten.length) (im 0):=(by unfold eX;rw[JK f0,List.drop_append,qF (by rw[f0];omega),lJ,f0,List.drop_replicate,q,rC,dw,Qp];congr 2;omega);rw[mh] at ap;have vY:=kr.out i x hx;have CB:(i:Int)<(M.length:Int):=(by omega);have ld:aH ao Gt H1 23 (.elem 1 M i 0)=aa x:=(by rw[r8 aE vY];rfl);have kX:=al.mk hX;have nT:=(aS.1 hB).1;have ks:=al.mk A1;clear s1 hX hB mh q f0 A1;refine bK @Bh @bh ?_;refine⟨xs.length - (i+1),by omega,i+1,by omega,rfl,by trivial,by trivial,by simp,by rw[ks.out],by trivial,?_,kX.out.fK (aJ _) _⟩;exact eu nT
  ·have:i=xs.length:=(by omega);subst this;have ht:dk.take xs.length=dk:=(by rw[kl.out];exact fC);have f0:=kfl.out xs.length;have jD:=kr2.out xs.length;rw[ht] at hB g6 f0 jD;rw[hN] at hB g6;rw[Nat.sub_self,List.replicate_zero,jr] at hB;have kB:=al.mk hB;have kX:=al.mk hX;clear hB hX;refine br @Bh ?_;exact⟨_,_,rfl,_,rfl,kX.out,dT.box jD hN.symm kB.out⟩
def L5:List FuncId:=[28,29,30,42,46,57,59,65,66,69,76,77,78,79,82,92,93,94,97,107,108,109,110,112,115,118,119,120,121,123,129,130,132,135,136,137,138,140,146,172,194,195,196,201]
noncomputable def Fy:FuncId->Option (List AV->aq->Option (AV × aq)):=Ba 4 W4 L5 [114]
noncomputable abbrev W5:=whole ao Gt Fy
def mc:qE Fy L5:=λg hg=>⟨Fj W4 g,by unfold Fy Ba;rw[aG (by simpa using hg)];rfl⟩
section
variable (a b n x:Int)
def JP:∀h,W5.call 28 [im a,im b] h=aa (.ret (im (cd a b)),h):=gT (L:=L5) rfl rfl rfl (Up a b _) rfl rfl
def Lp:∀h,W5.call 29 [im a,im b] h=aa (.ret (im (cR a b)),h):=gT (L:=L5) rfl rfl rfl (Zw a b _) rfl rfl
def MM:∀h,W5.call 46 [im x] h=aa (.ret (.v (.bool (bI x))),h):=gT (L:=L5) rfl rfl rfl (ab6 x _) rfl rfl
def Es:∀h,W5.call 69 [im a,im b] h=aa (.ret (.tuple [im (jk a b),im (nP a b)]),h):=gT (L:=L5) rfl rfl rfl (ajv a b _) rfl rfl
def Ky:∀h,W5.call 30 [im a,im n] h=aa (.ret (.tuple [im (eR a n),im (mS a)]),h):=gT (L:=L5) rfl rfl rfl (OQ a n _) rfl rfl
def ao2:∀h,W5.call 65 [im a,im b] h=aa (.ret (im (cd a b)),h):=gT (L:=L5) rfl rfl rfl (ao1 a b _) rfl rfl
def ap7:∀h,W5.call 194 [im n] h=aa (.ret (.tuple [im (if fmod n=0 then 0 else eK n),im (if fmod n=0 then 90 else 0)]),h):=gT (L:=L5) rfl rfl rfl (ap6 n _) rfl rfl
def asE:∀h,W5.call 94 [im x] h=aa (.ret (.v (.bool (bI x))),h):=gT (L:=L5) rfl rfl rfl (asD x _) rfl rfl
def apE:∀h,W5.call 140 [im a,im b] h=aa (.ret (.tuple [im (jk a b),im (nP a b)]),h):=gT (L:=L5) rfl rfl rfl (apD a b _) rfl rfl
def apK:∀h,W5.call 132 [im a,im n] h=aa (.ret (.tuple [im (eR a n),im (mS a)]),h):=gT (L:=L5) rfl rfl rfl (apJ a n _) rfl rfl
def apY:∀h,W5.call 120 [im n] h=aa (.ret (.agg (aL 1 n [] .nil 0 [])),h):=gT (L:=L5) rfl rfl rfl (apX n _) rfl rfl
end
def Iz(x n):∀h,W5.call 57 [im x,im n] h=aa (.ret (im (eR x n)),h):=gT (L:=L5) rfl rfl rfl (aoz x n _) rfl rfl
def aaf(x n):∀h,W5.call 77 [im x,im n] h=aa (.ret (im (eR x n)),h):=gT (L:=L5) rfl rfl rfl (aoB x n _) rfl rfl
def vn{x y}{ae}{owners}(hx:RL x ae)(hy:IL y owners):RL (aC x) ae/\IL (aC y) owners/\aK 0 0 0 (aC x)=ah/\aK 0 0 0 (aC y)=ah:=
 ⟨hx.fZ.1,hy.hold.1,hx.fZ.2,hy.hold.2⟩
def Vr(x y)(ae)(owners)(hx:RL x ae)(hy:IL y owners):∀h,W5.call 97 [.agg [x,y]] h=aa (.ret (im (cW ae owners)),h):=by obtain⟨h1,h2,h3,h4⟩:=vn hx hy;exact gT (L:=L5) (b9:=[.agg [aC x,aC y]]) rfl rfl (by simp[aP,aK,h3,h4]) (Vq (aC x) (aC y) ae owners h1 h2 _) rfl rfl
def ahl(x y)(ae)(owners)(hx:RL x ae)(hy:IL y owners):∀h,W5.call 108 [.agg [x,y]] h=aa (.ret (im (bJ ae:Nat)),h):=by obtain⟨h1,h2,h3,h4⟩:=vn hx hy;obtain⟨h',c,-⟩:=Vz ⟨[],[],0,[]⟩ (aC x) (aC y) ae owners h1 h2;exact gT (L:=L5) (b9:=[.agg [aC x,aC y]]) rfl rfl (by simp[aP,aK,h3,h4]) c rfl rfl
def VA(x y)(ae)(owners)(hx:RL x ae)(hy:IL y owners):∀h,W5.call 42 [.agg [x,y]] h=aa (.ret (im (bJ ae:Nat)),h):=by obtain⟨h1,h2,h3,h4⟩:=vn hx hy;obtain⟨h',c,-⟩:=aho ⟨[],[],0,[]⟩ (aC x) (aC y) ae owners h1 h2;exact gT (L:=L5) (b9:=[.agg [aC x,aC y]]) rfl rfl (by simp[aP,aK,h3,h4]) c rfl rfl
def ahn(x y)(ae)(owners)(hx:RL x ae)(hy:IL y owners):∀h,W5.call 136 [.agg [x,y]] h=aa (.ret (im (bJ ae:Nat)),h):=by obtain⟨h1,h2,h3,h4⟩:=vn hx hy;obtain⟨h',c,-⟩:=ahm ⟨[],[],0,[]⟩ (aC x) (aC y) ae owners h1 h2;exact gT (L:=L5) (b9:=[.agg [aC x,aC y]]) rfl rfl (by simp[aP,aK,h3,h4]) c rfl rfl
def RM(x y)(ae)(owners)(hx:RL x ae)(hy:IL y owners)(hl:ae.length<=1000000):∀h,W5.call 115 [.agg [x,y]] h=aa (.ret (im (cW ae owners)),h):=by obtain⟨h1,h2,h3,h4⟩:=vn hx hy;obtain⟨r,h',c,-,rfl⟩:=ao7 ⟨[],[],0,[]⟩ (aC x) (aC y) ae owners h1 h2 hl;exact gT (L:=L5) (b9:=[.agg [aC x,aC y]]) rfl rfl (by simp[aP,aK,h3,h4]) c rfl rfl
def ZJ(x)(l)(hx:IL x l)(hl:l.length<=1000000):∀h,W5.call 107 [x] h=aa (.ret (.v (.bool (l.all bX))),h):=by obtain⟨h1,h2⟩:=hx.hold;exact gT (L:=L5) (b9:=[aC x]) rfl rfl (by simp[aP,h2]) (ZI (aC x) l h1 hl _) rfl rfl
def am5(x)(l)(hx:IL x l)(hl:l.length<=9223372036854775807):∀h,W5.call 92 [x] h=aa (.ret (.v (.bool (l.all bX))),h):=by obtain⟨h1,h2⟩:=hx.hold;obtain⟨r,h',c,-,rfl⟩:=am4 ⟨[],[],0,[]⟩ (aC x) l h1 hl;exact gT (L:=L5) (b9:=[aC x]) rfl rfl (by simp[aP,h2]) c rfl rfl
def ZZ(x)(l)(hx:IL x l)(hl:l.length<=9223372036854775807):∀h,W5.call 93 [x] h=aa (.ret (.v (.bool (fJ (-1) l))),h):=by obtain⟨h1,h2⟩:=hx.hold;obtain⟨r,h',c,-,rfl⟩:=anW ⟨[],[],0,[]⟩ (aC x) l h1 hl;exact gT (L:=L5) (b9:=[aC x]) rfl rfl (by simp[aP,h2]) c rfl rfl
def WY(x)(l)(n)(hx:IL x l)(hl:l.length<=1099511627776):∀h,W5.call 137 [x,im n] h=aa (.ret (.v (.bool (l.contains n))),h):=by obtain⟨h1,h2⟩:=hx.hold;obtain⟨r,h',c,-,rfl⟩:=ajV ⟨[],[],0,[]⟩ (aC x) l n h1 hl;exact gT (L:=L5) (b9:=[aC x,im n]) rfl rfl (by simp[aP,h2,aK,im]) c rfl rfl
def auN(n)(h1:0<n)(h2:n<=1000000):∀h,W5.call 135 [im (n:Nat)] h=aa (.ret (.list .held 1 (ints (fU n))),h):=
 gT (L:=L5) rfl rfl rfl (auM ⟨[],[],0,[]⟩ n h1 h2) (CW (aZ _ _) (SX h1)) (by simp[aK,nq,sD])
def auV(x y)(a b)(hx:IL x a)(hy:IL y b)(hl:a.length<=1000000)(Ew:a.length<=b.length):∀h,W5.call 110 [x,y] h=aa (.ret (im (oQ a b)),h):=by obtain⟨h1,h2⟩:=hx.hold;obtain⟨h3,h4⟩:=hy.hold;obtain⟨h',c,-⟩:=auU ⟨[],[],0,[]⟩ (aC x) (aC y) a b h1 h3 hl Ew;exact gT (L:=L5) (b9:=[aC x,aC y]) rfl rfl (by simp[aP,h2,h4]) c rfl rfl
def VK(x y z)(ae)(owners aj)(hx:RL x ae)(hy:IL y owners)(hz:IL z aj)(hl:aj.length<=1000000):∀h,W5.call 129 [.agg [x,y],z] h=aa (.ret (im (js ae owners aj)),h):=by obtain⟨h1,h2,h3,h4⟩:=vn hx hy;obtain⟨h5,h6⟩:=hz.hold;obtain⟨r,h',c,-,rfl⟩:=ah2 ⟨[],[],0,[]⟩ (aC x) (aC y) (aC z) ae owners aj h1 h2 h5 hl;exact gT (L:=L5) (b9:=[.agg [aC x,aC y],aC z]) rfl rfl (by simp[aP,aK,h3,h4,h6]) c rfl rfl
def apU(x y)(ae)(owners)(hx:RL x ae)(hy:IL y owners)(a v):∀h,W5.call 130 [.agg [x,y],.agg [im a,im v]] h=aa (.ret (.v (.bool (wF ae (a,v)))),h):=by obtain⟨h1,h2,h3,h4⟩:=vn hx hy;obtain⟨r,h',c,-,rfl⟩:=apS ⟨[],[],0,[]⟩ (aC x) (aC y) ae owners h1 h2 a v;exact gT (L:=L5) (b9:=[.agg [aC x,aC y],.agg [im a,im v]]) rfl rfl (by simp[aP,aK,h3,h4,im]) c rfl rfl
def Wd:∀l:List Int,(ints l).flatten=l.map im
 | []=>rfl
 |a::l=>by show(xN a::ints l).flatten=im a::l.map im;rw[pC,Wd l];rfl
def alc{h}{y}{l}(s:dT 1 h y (ints l)):IL (gH h y) l/\aK 0 0 0 (gH h y)=ah:=by
 rcases s.2 with⟨k,s',rfl,hs⟩|⟨b,off,aD,cs,rfl,-,hb,h1,h2⟩
 ·rw[gH];exact⟨⟨_,_,rfl,λq=>hs (by unfold ints;simpa using q)⟩,by rw[aK,fh,nq];rfl⟩
 ·rw[gH,hb];simp only;rw[oN] at h1 h2;have e:(ints l).flatten.map (λc=>[c])=ints l:=by have this:(ints l).flatten=l.map im:=Wd l;rw[this,Wc]
  rw[aG h2,h1,e];exact⟨⟨_,_,rfl,λ_=>rfl⟩,by rw[aK,nq];rfl⟩
def ahz(x y)(a b)(hx:IL x a)(hy:IL y b)(hl:a.length+b.length<=1000000):∃z,IL z (a++b)/\∀h,W5.call 109 [.list .tight 1 [[x],[y]]] h=aa (.ret z,h):=by
 obtain⟨h1,h2⟩:=hx.hold;obtain⟨h3,h4⟩:=hy.hold;obtain⟨r,h',c,z,rfl,-,sz⟩:=ahx .tight [aC x,aC y] [ints a,ints b] rfl ⟨[],[],0,[]⟩ (λi w rs hw jE=>by
  have sa:∀{w:AV} {l:List Int},IL w l->dT 1 ⟨[],[],0,[]⟩ w (ints l):=λ{w l} hw=>by obtain⟨k,s,rfl,hs⟩:=hw;exact dT.list (λr hr=>by obtain⟨n,-,rfl⟩:=jP.1 hr;rfl) λq=>hs λe=>q (by rw[e];rfl)
  rcases i with _|_|i
  ·injection hw with hw;injection jE with jE;subst hw;subst jE;exact sa h1
  ·injection hw with hw;injection jE with jE;subst hw;subst jE;exact sa h3
  ·cases hw) (by simp[dD];omega) bE
 have e:[ints a,ints b].flatten=ints (a++b):=by simp[ints]
 rw[e] at sz;obtain⟨i1,i2⟩:=alc sz;exact⟨_,i1,gT (L:=L5) (b9:=[.list .tight 1 [[aC x],[aC y]]]) rfl rfl (by simp[aP,aK,gQ,h2,h4,sD]) c rfl i2⟩
def ajq(bp b)(k)(hb:b.length<=1099511620000)(ht:bp.length<=1099511620000):∀h,W5.call 78 [.v (.string (bs bp)),.list k 1 (a8 b)] h=aa (.ret (im (mU (gx bp b):Nat)),h):=
 gT (L:=L5) (b9:=[.v (.string (bs bp)),.list (bO k) 1 (a8 b)]) rfl (by rw[bN,bN,aC.eq_1,qo];rfl) (by simp[aP,aK,fh,jS]) (Ws bp b _ hb ht _) rfl rfl
def vC.hold{x}{v}(h:vC x v):vC (aC x) v/\aK 0 0 0 (aC x)=ah:=by
 cases h with|int n hn=>exact⟨.int n hn,rfl⟩|text k s b hs hb=>rw[aC,aC,qo];exact⟨.text _ s b hs hb,by simp[aK,fh,jS]⟩|val v r h=>obtain⟨h1,h2⟩:=da.hold v r h;rw[aC,aC];exact⟨.val v _ h1,by simpa [aK] using h2⟩
def uF.hold{xs}{vs}(h:uF xs vs):uF (xs.map aC) vs/\∀a∈xs.map aC,aK 0 0 0 a=ah:=by
 refine⟨⟨by simp[h.1],λi x v hx hv=>?_⟩,λa ha=>?_⟩
 ·rw[ej] at hx;cases hy:xs[i]? with
  |none=>rw[hy] at hx;cases hx
  |some y=>rw[hy] at hx;injection hx with hx;subst hx;exact(h.2 i y v hy hv).hold.1
 ·obtain⟨y,hy,rfl⟩:=jP.1 ha;obtain⟨i,hi⟩:=uJ hy;have cS:=(aS.1 hi).1;exact(h.2 i y _ hi (aR (by rw[<-h.1];exact cS))).hold.2
def da.tok{vs}{t}{sz}{ae}(h:da (.list vs) (aL 3 0 [] t sz ae))(t2):da (.list vs) (aL 3 0 [] t2 sz ae):=by
 generalize hr:aL 3 0 [] t sz ae=r at h;cases h with|list l k z rs a b c d=>unfold aL at hr;injection hr with _ hr;injection hr with _ hr;injection hr with _ hr;injection hr with hr;injection hr with q1 q2 q3;subst q2;subst q3;exact .list vs t2 sz ae a b c d
def amf(k)(s)(xs)(vs)(hr:uF xs vs)(hs:xs≠[]->s=1)(hl:xs.length<=1000):
 ∃row,da (.list vs) row/\∀h,W5.call 112 [.list k s (xs.map λa=>[a])] h=aa (.ret (.agg row),h):=by
 obtain⟨h1,h2⟩:=hr.hold;obtain⟨r,h',c,-,t,sz,ae,rfl,hv,hf,-⟩:=QY ⟨[],[],0,[]⟩ vk (bO k) s (xs.map aC) vs h1 (λq=>hs (by simpa using q)) (by simpa using hl) h2;refine⟨aL 3 0 [] (bO t) sz ae,hv.tok _,gT (L:=L5) (b9:=[.list (bO k) s ((xs.map aC).map λa=>[a])]) rfl (by rw[bN,bN,aC,CJ]) (by rw[aP,aP,aK,fh,yQ _ h2];rfl) c rfl ?_⟩;rw[aK,aL,aP,aP,aP,aP,aP,aK,fh,hf];rfl
def Wo{z}{h}:∀xs:List AV,rK z h (xs.map λa=>[a])=(xs.map (lj z h)).map λa=>[a]
 | []=>rfl
 |x::xs=>by rw[eC,rK,Wo xs];rfl
def Wp{z}{h}:∀b:List UInt8,rK z h (a8 b)=a8 b
 | []=>rfl
 |a::b=>by show rK z h (lh a::a8 b)=_;rw[rK,Wp b];rfl
def wP(h:aq)(x:AV)(v:Vl):Prop:=vC (lj 4 h x) v/\aK 0 0 0 (lj 4 h x)=ah
def zN(h:aq)(xs:List AV)(vs:List Vl):Prop:=xs.length=vs.length/\∀(i:Nat) x v,xs[i]?=aa x->vs[i]?=aa v->wP h x v
def zN.nil{h}:zN h [] []:=⟨rfl,λi x v q=>by simp at q⟩
def zN.cons{h}{x}{v}{xs}{vs}(q:wP h x v)(hs:zN h xs vs):zN h (x::xs) (v::vs):=by
 refine⟨by simp[hs.1],λi y w hy hw=>?_⟩;cases i with|zero=>simp at hy hw;subst hy;subst hw;exact q|succ i=>simp at hy hw;exact hs.2 i y w hy hw
def wP.int{h}(n)(hn:0<=n/\n<=4611686018427387903):wP h (.iface 3 (.v (.int .i64 n))) (.int n):=⟨.int n hn,rfl⟩
def wP.text{h}(k)(s)(b)(hs:b≠[]->s=1)(hb:b.length<=1099511620000):wP h (.iface 28 (.list k s (a8 b))) (.text b):=by unfold wP;rw[lj,lj,Wp];exact⟨.text _ s b hs hb,by simp[aK,fh,jS]⟩
def aq9{z}{ae:List (List AV)}(hr:∀r∈ae,r.length=z){i}{r}(h:ae[i]?=aa r):(ae.flatten.drop (i * z)).take z=r:=by
 have hl:=hr r (dj h);refine rB λj=>?_;rw[oJ];split
 ·rename_i hj;rw[pD,ai3 hr i j hj,h];rfl
 ·rename_i hj;rw[uI ag]
def arc{z}(hz:0<z):∀ae:List (List AV),(∀r∈ae,r.length=z)->xY z ae.flatten 0 ae.length=ae:=by
 intro ae hr;refine rB λi=>?_;unfold xY;rw[ej];rcases dW i ae.length with hi|hi
 ·rw[yx hi,ff,Nat.zero_add,aq9 hr (aR hi),aR hi]
 ·rw[uI (by simpa using hi),uI hi];rfl
def wP.list{h}{vs}{ae}{b}(hb:h.boxes[b]?=aa ae.flatten)(hr:ou vs ae)(hm:ae.length<=1000000):wP h (.iface 96 (.agg (im 3::im 0::sv []::[.arr b 0 ae.length ae.length]))) (.list vs):=by
 have hl:∀r∈ae,r.length=4:=λr gj=>by obtain⟨i,hi⟩:=uJ gj;have cS:=(aS.1 hi).1;exact(hr.2 i _ r (aR (by rw[<-hr.1];exact cS)) hi).len
 have e:lj 4 h (.iface 96 (.agg (im 3::im 0::sv []::[.arr b 0 ae.length ae.length])))=.iface 96 (.agg (aL 3 0 [] .held 4 (fa ae))):=by unfold im sv aL;simp only[lj,mB,hb];rw[aG ⟨by rw[nN hl];omega,by decide⟩,arc aV ae hl];rfl
 have hv:da (.list vs) (aL 3 0 [] .held 4 ae):=.list vs .held 4 ae hr.1 (λ_=>rfl) hm hr.2;obtain⟨h1,h2⟩:=da.hold _ _ hv;have e2:bN (aL 3 0 [] .held 4 ae)=aL 3 0 [] .held 4 (fa ae):=rfl;rw[e2] at h1 h2;unfold wP;rw[e];exact⟨.val _ _ h1,by simpa [aK] using h2⟩
def zN.nO{h}{xs}{vs}(q:zN h xs vs):uF (xs.map (lj 4 h)) vs/\∀a∈xs.map (lj 4 h),aK 0 0 0 a=ah:=by
 refine⟨⟨by simp[q.1],λi x v hx hv=>?_⟩,λa ha=>?_⟩
 ·rw[ej] at hx;cases hy:xs[i]? with
  |none=>rw[hy] at hx;cases hx
  |some y=>rw[hy] at hx;injection hx with hx;subst hx;exact(q.2 i y v hy hv).1
 ·obtain⟨y,hy,rfl⟩:=jP.1 ha;obtain⟨i,hi⟩:=uJ hy;have cS:=(aS.1 hi).1;exact(q.2 i y _ hi (aR (by rw[<-q.1];exact cS))).2
def WZ(h)(bp)(k)(s)(xs)(vs)(hr:zN h xs vs)(hs:xs≠[]->s=1)(hl:xs.length<=1000)(ht:bp.length<=1099511620000)(AK:gE (.list vs)<=16)(AL:(dK (.list vs)).length<=1099511600000):
 W5.call 114 [.v (.string (bs bp)),.list k s (xs.map λa=>[a])] h=aa (.ret (im ((ua bp (.list vs):Nat):Int)),h):=by
 obtain⟨h1,h2⟩:=hr.nO;obtain⟨r,h',c,rfl⟩:=aj1 ⟨[],[],0,[]⟩ vk bp (bO k) s (xs.map (lj 4 h)) vs h1 (λq=>hs (by simpa using q)) (by simpa using hl) h2 ht AK AL;refine ajc (b9:=[.v (.string (bs bp)),.list (bO k) s ((xs.map (lj 4 h)).map λa=>[a])]) rfl rfl ?_ ?_ c
 ·rw[mB,mB,mB,lj,Wo];rfl
 ·simp only[aP,aK,fh,yQ _ h2,Bool.and_self]
def yA.hold{x}{v}(h:yA x v):yA (aC x) v/\aK 0 0 0 (aC x)=ah:=by
 cases h with|int n hn=>exact⟨.int n hn,rfl⟩|text k s b hs hb=>rw[aC,aC,qo];exact⟨.text _ s b hs hb,by simp[aK,fh,jS]⟩
def wU.hold{xs}{vs}(h:wU xs vs):wU (xs.map aC) vs/\∀a∈xs.map aC,aK 0 0 0 a=ah:=by
 refine⟨⟨by simp[h.1],λi x v hx hv=>?_⟩,λa ha=>?_⟩
 ·rw[ej] at hx;cases hy:xs[i]? with
  |none=>rw[hy] at hx;cases hx
  |some y=>rw[hy] at hx;injection hx with hx;subst hx;exact(h.2 i y v hy hv).hold.1
 ·obtain⟨y,hy,rfl⟩:=jP.1 ha;obtain⟨i,hi⟩:=uJ hy;have cS:=(aS.1 hi).1;exact(h.2 i y _ hi (aR (by rw[<-h.1];exact cS))).hold.2
def amj(k)(s)(xs)(vs)(hr:wU xs vs)(hs:xs≠[]->s=1)(hl:xs.length<=1000)(AK:gE (.list vs)<=16)(AL:(dK (.list vs)).length<=1099511600000):
 ∃t,∀h,W5.call 79 [.list k s (xs.map λa=>[a])] h=aa (.ret (.list t 1 (a8 (dK (.list vs)))),h):=by
 obtain⟨h1,h2⟩:=hr.hold;obtain⟨r,h',c,t,rfl⟩:=ami ⟨[],[],0,[]⟩ vk (bO k) s (xs.map aC) vs h1 (λq=>hs (by simpa using q)) (by simpa using hl) AK AL;exact⟨bO t,gT (L:=L5) (b9:=[.list (bO k) s ((xs.map aC).map λa=>[a])]) rfl (by rw[bN,bN,aC,CJ]) (by rw[aP,aP,aK,fh,yQ _ h2];rfl) c rfl (by simp[aK,fh,jS])⟩
def Um(k0)(s0)(xs:List AV)(y z)(ae)(owners ar)(hx:RL (.list k0 s0 (xs.map λa=>[a])) ae)(hy:IL y owners)(hz:IL z ar)(ju:ar.length<=1099511627776):
 (∃e,fL ae owners ar=([],az,e)/\∀h,W5.call 76 [.agg [.list k0 s0 (xs.map λa=>[a]),y],z] h=aa (.ret (.tuple [.list .nil 0 [],.v (.bool az),.v (.int .i64 e)]),h))∨
 ∃l,fL ae owners ar=(l,ah,0)/\l.length=ae.length/\∀h,W5.call 76 [.agg [.list k0 s0 (xs.map λa=>[a]),y],z] h=aa (.ret (.tuple [.list .held 1 (ints l),.v (.bool ah),.v (.int .i64 0)]),h):=by
 obtain⟨h1,h2⟩:=hx.hold;obtain⟨h3,h4⟩:=hy.hold;obtain⟨h5,h6⟩:=hz.hold;have ea:bN [.agg [.list k0 s0 (xs.map λa=>[a]),y],z]=[.agg [.list (bO k0) s0 ((xs.map aC).map λa=>[a]),aC y],aC z]:=by rw[bN,aC,bN,bN,bN,aC,CJ];rfl
 have ef:aP 0 0 0 [.agg [.list (bO k0) s0 ((xs.map aC).map λa=>[a]),aC y],aC z]=ah:=by have hf:=yQ _ h2;rw[aP,aK,aP,aP,aP,aP,aK,fh,hf,h4,h6];rfl
 rcases aeb (bO k0) s0 (xs.map aC) (aC y) (aC z) ae owners ar h1 h3 h5 ju with⟨e,e1,hc⟩|⟨l,e1,e2,hc⟩
 ·exact .inl ⟨e,e1,gT (L:=L5) rfl ea ef (hc _) rfl rfl⟩
 ·exact .inr ⟨l,e1,e2,gT (L:=L5) rfl ea ef (hc _) rfl (by simp[aK,aP,nq,sD])⟩
def FI:Tryz.f26.results.toList=[.tmp 6]:=av
def qL{b}:gg ao 50 (.ptr (.box b) 0) 0=aa (.ptr (.box b) 0):=av
def pM{b}:gg ao 50 (.ptr (.box b) 0) 1=aa (.ptr (.box b) 1):=av
def Ij:isIface ao 3=aa az:=av
def QE:isIface ao 28=aa az:=av
def ald:isIface ao 96=aa az:=av
def UZ(t u v)(x y z):gf ao 180 3 [(0,.iface t x),(1,.iface u y),(2,.iface v z)]=aa (.list .tight 1 [[.iface t x],[.iface u y],[.iface v z]]):=av
def SC(a b)(t):(dK (.list [.int a,.int b,.text t])).length<=60+t.length:=by
 have h1:=oE 9 (0+1+1+1);have h2:=oE 9 (lY a);have h3:=oE 9 (lY b);have h4:=oE 9 t.length;simp only[dK,iX,iP,dw,kQ] at *
 omega
def sX:bI 4=ah:=by decide+kernel
def sY{a}(h:bI a=ah)(n):eR a n=((bF a.toNat n:Nat):Int):=by unfold eR;rw[aG h]
def tU{a}(h:elem a=ah):bI ((a:Nat):Int)=ah:=by unfold bI;rw[dV,h,Bool.and_true];have:=(elem_iff.1 h).1;exact bQ ag
def BY{a}(h:bI a=ah):elem a.toNat=ah:=by unfold bI at h;rw[bC] at h;exact h.2
def As{a}(h:bI a=ah):1<=a/\a<=2147483578:=by obtain⟨n,rfl,h1,h2,h3⟩:=BZ h;have:P=2147483579:=rfl;omega
def aih{a}(h:bI a=ah)(n):bI ((bF a.toNat n:Nat):Int)=ah:=tU (Bg (BY h) n)
def uR{a}(h:bI a=ah)(n):bI (eR a n)=ah:=by rw[sY h];exact aih h n
def AB{a b}(h:bI a=ah)(k:bI b=ah):jk a b=((a.toNat * b.toNat%P:Nat):Int):=by unfold jk;rw[aG ⟨h,k⟩]
def VQ{a b}(h:bI a=ah)(k:bI b=ah):bI (jk a b)=ah:=by rw[AB h k];exact tU (G7 (BY h) (BY k))
def avq(h:aq)(key e s:Int)(kt:Tok)(st:Nat)(text:List UInt8)(bT:text≠[]->st=1)(hl:text.length<=1000000):
 ∃r h',W5.call 26 [im key,.list kt st (a8 text),.agg [im e,im s]] h=aa (r,h')/\r=.ret (.v (.bool (nI key text e s)))/\Ext h h':=by
 have c1:=MM key;have bx:(AV.agg [im e,im s]).bP=aa [im e,im s]:=rfl;have l0:=QM (aZ h [im e,im s]);have l1:=QN (aZ h [im e,im s]);have kv:al (nI key text e s=(bI key&&bX e&&bX s&&decide (e=((rn ((bF Gn s * bF key.toNat (0 - e)%P:Nat):Int) key text:Nat):Int)))):=⟨by rw[Int.zero_sub];rfl⟩;generalize nI key text e s=res at *
 refine db rfl Tryz.func26 rfl ?_;unfold im at *
 by_cases hA:e<0∨s<0
 ·have d1:decide ((if s<e then s else e)<0)=ah:=bQ (by split<;>omega);have kr:al (res=az):=⟨by
   rw[kv.out];unfold bX;rcases hA with q|q
   ·rw[cE (ag:¬0<=e)];simp
   ·rw[cE (ag:¬0<=s)];simp⟩
  clear hA;refine bA @FI @qL @pM (aw @bg (aw @Iq @C9)) ?_;exact⟨_,_,rfl,by rw[kr.out],.push _ _⟩
 have d1:decide ((if s<e then s else e)<0)=az:=cE (by split<;>omega);by_cases hB:1073741789<=e∨1073741789<=s
 ·have d2:decide (1073741789<=(if e<s then s else e))=ah:=bQ (by split<;>omega);have kr:al (res=az):=⟨by
   rw[kv.out];unfold bX Qi;rcases hB with q|q
   ·rw[cE (ag:¬e<1073741789)];simp
   ·rw[cE (ag:¬s<1073741789)];simp⟩
  clear hA hB;refine bA @FI @qL @pM (aw @bg (aw @Iq @C9)) ?_;exact⟨_,_,rfl,by rw[kr.out],.push _ _⟩
 have d2:decide (1073741789<=(if e<s then s else e))=az:=cE (by split<;>omega);have aF:0<=e:=by omega
 have oU:e<1073741789:=by omega
 have vZ:0<=s:=by omega
 have bD:s<1073741789:=by omega
 clear hA hB;cases hC:bI key with
 |false=>rw[hC] at c1;have kr:al (res=az):=⟨by rw[kv.out,hC];rfl⟩;clear hC;refine bA @FI @qL @pM (aw @bg (aw @Iq @C9)) ?_;exact⟨_,_,rfl,by rw[kr.out],.push _ _⟩
 |true=>
  rw[hC] at c1;have c2:=aaf 4 s;have c3:=aaf key (0 - e);have c4:=Es (eR 4 s) (eR key (0 - e));have hr:=VQ (uR sX s) (uR hC (0 - e));have hR:jk (eR 4 s) (eR key (0 - e))=((bF Gn s * bF key.toNat (0 - e)%P:Nat):Int):=by rw[AB (uR sX s) (uR hC (0 - e)),sY sX,sY hC,dV,dV];rfl
  have kr:al (res=decide (e=((rn (jk (eR 4 s) (eR key (0 - e))) key text:Nat):Int))):=⟨by rw[kv.out,hC,hR,rW.2 (show okF e from⟨aF,oU⟩),rW.2 (show okF s from⟨vZ,bD⟩)];rfl⟩;have hk:=As hC;have lQ:=As hr;clear hC hR hr;generalize jk (eR 4 s) (eR key (0 - e))=R at *
  have hlen:=SC R key text;obtain⟨te,c5⟩:=amj .tight 1 [.iface 3 (.v (.int .i64 R)),.iface 3 (.v (.int .i64 key)),.iface 28 (.list kt st (a8 text))] [.int R,.int key,.text text]
   (.cons (.int R ⟨ag,by omega⟩) (.cons (.int key ⟨ag,by omega⟩) (.cons (.text kt st text bT ag) .nil))) (λ_=>rfl) bE (by simp[gE,ia]) ag
  have c6:=ajq yc (dK (.list [.int R,.int key,.text text])) te ag aV;have hh:mU (gx yc (dK (.list [.int R,.int key,.text text])))=rn R key text:=rfl;rw[hh] at c6;simp only[eC,vE] at c5;generalize rn R key text=n at *
  rw[show yc=[115,105,103,110] from rfl] at c6;have wn:IntKind.i64.wrap (0 - e)=0 - e:=fN ag ag;unfold im at *
  clear hlen hh hk lQ;refine bA @FI @qL @pM (aw @bg (aw @Iq @C9)) ?_;refine ev mc av ?_;refine cQ @FI @qL @pM ?_;refine ev mc av ?_;refine bA @FI @qL @pM (aw @Ij (aw @QE @UZ)) ?_;exact⟨_,_,rfl,by rw[kr.out],.push _ _⟩
def FK:Tryz.f68.results.toList=[.tmp 6,.tmp 7]:=av
def Si:Tryz.f56.results.toList=[.tmp 6,.tmp 7]:=av
def xU(aj row:List Int)(k:Nat):Nat:=(bM k).foldl (λx j=>x * bF (ai aj j).toNat (ai row j)%P) 1
def aah(aj row)(k):xU aj row (k+1)=xU aj row k * bF (ai aj k).toNat (ai row k)%P:=by unfold xU;rw[om,oj];rfl
def RH{aj row}(h:aj.all bI=ah):∀k,k<=aj.length->elem (xU aj row k)=ah
 |0,_=>At
 |k+1,hk=>by rw[aah];refine G7 (RH h k ag) (Bg (BY ?_) _);rw[ey] at h;exact h _ (by rw[fm ag];exact iW _)
def uA(ae:List (List Int))(owners aj:List Int)(row:Int):Int × Int:=
 if js ae owners aj≠0 then (0,js ae owners aj) else if decide (row<0)||decide ((ae.length:Int)<=row) then (0,1) else (((nG aj (ae.getD row.toNat []):Nat):Int),0)
def Vu{ae}{owners aj}(h:js ae owners aj=0):cW ae owners=0/\aj.length=bJ ae/\aj.all bI=ah:=by
 unfold js at h;split at h
 ·rename_i q;exact absurd h q
 ·rename_i q;split at h
  ·rename_i q2;rw[bC,decide_eq_true_eq] at q2;exact⟨by simpa using q,q2.1,q2.2⟩
  ·cases h
def aaj(h:aq)(x y z:AV)(ae:List (List Int))(owners aj:List Int)(hx:RL x ae)(hy:IL y owners)(hz:IL z aj)(hl:aj.length<=1000000)(row:Int):
 ∃r h',W5.call 68 [.agg [x,y],z,im row] h=aa (r,h')/\r=.ret (.tuple [im (uA ae owners aj row).1,im (uA ae owners aj row).2])/\Ext h h':=by
 have bx:=wy hx hy;have c1:=VK x y z ae owners aj hx hy hz hl;have b0:=aZ h [x,y];have l0:=vh b0;have l1:=rZ b0;have ln:=hx.dM;have kx:=al.mk (aw hx hz);clear hx hy b0;have o5:al (js ae owners aj≠0->uA ae owners aj row=(0,js ae owners aj)):=⟨λq=>by unfold uA;rw[aG q]⟩;have oy:al (js ae owners aj=0->row<0∨(ae.length:Int)<=row->uA ae owners aj row=(0,1)):=⟨λq p=>by
  unfold uA;rw[aI (by simp[q]),aG];rcases p with p|p
  ·rw[bQ p];rfl
  ·rw[bQ p];simp⟩
 have HT:al (js ae owners aj=0->¬row<0->¬(ae.length:Int)<=row->uA ae owners aj row=(((nG aj (ae.getD row.toNat []):Nat):Int),0)):=⟨λq p1 p2=>by unfold uA;rw[aI (by simp[q]),aI (by rw[cE p1,cE p2];simp)]⟩;have Ey:=λq=>@Vu ae owners aj q;have kck:=al.mk Ey;clear Ey;generalize uA ae owners aj row=res at *
 unfold im at *
 refine db rfl Tryz.func68 rfl ?_;by_cases h0:js ae owners aj=0;rotate_left 1
 ·have kr:=al.mk (o5.out h0);generalize js ae owners aj=q at *
  refine bK @FK @bg ?_;exact⟨_,_,rfl,by rw[kr.out],.push _ _⟩
 rw[h0] at c1;by_cases h1:row<0
 ·have d1:decide (row<0)=ah:=bQ h1;have kr:=al.mk (oy.out h0 (.inl h1));clear h1 h0;refine cQ @FK @bg @dE ?_;exact⟨_,_,rfl,by rw[kr.out],.push _ _⟩
 have d1:decide (row<0)=az:=cE h1;by_cases h2:(ae.length:Int)<=row
 ·have d2:decide ((ae.length:Int)<=row)=ah:=bQ h2;have kr:=al.mk (oy.out h0 (.inr h2));clear h1 h0 h2;refine cQ @FK @bg @dE ?_;exact⟨_,_,rfl,by rw[kr.out],.push _ _⟩
 have d2:decide ((ae.length:Int)<=row)=az:=cE h2;have kr:=al.mk (HT.out h0 h1 h2);obtain⟨q1,q2,q3⟩:=kck.out h0;obtain⟨w1,w2,w3,w4⟩:=rk q1;have dU:row.toNat<ae.length:=by omega
 have ES:=w3 _ (iW dU);rw[<-lO (t:=ae) dU] at ES;generalize hR:ae.getD row.toNat []=R at *
 have yV:R.length=aj.length:=by rw[ES.1,q2]
 have de:aj.length<=64:=by rw[<-yV];exact ES.2.2.1
 obtain⟨k,s,xs,rfl,hs,dN,eH⟩:=kx.out.1;obtain⟨kz,sz,rfl,dL⟩:=kx.out.2;have bD:s=1:=hs (by intro q;rw[q] at dU;simp at dU);subst bD;obtain⟨a,gh⟩:∃a,xs[row.toNat]?=aa a:=⟨_,aR ag⟩;have hv:ae[row.toNat]?=aa R:=by rw[<-hR,ez,aR dU];rfl
 obtain⟨ka,sa,rfl,jt⟩:=eH _ a R gh hv;have ld:=lV (H:=h.push [.list k 1 (xs.map λa=>[a]),y]) (s:=1) gh;have kk:=al.mk (aw dL (aw jt q3));have Et:0<=row:=by omega
 have xu:row<(ae.length:Int):=by omega
 have cS:(xs.map λa=>[a]).length=ae.length:=by rw[bu];exact dN
 have y8:=dD R;have XD:=dD aj;have u23:=dQ;have u22:=ji;have z23:=il;have z3:=fP;clear hs eH dL jt gh hv hR ES w1 w2 w3 w4 q1 q2 q3 o5 oy HT h0 kx kck hz h1 h2;refine cQ @FK @bg @dE ?_;refine cz (λm e H=>∃j:Nat,j<=aj.length/\m=aj.length - j/\e.get 2=.v (.int .i64 row)/\e.get 3=.ptr (.box h.boxes.length) 0/\e.get 6=.v (.int .i64 (xU aj R j:Nat))/\e.get 28=.list kz sz (ints aj)/\e.get 29=.v (.int .i64 (aj.length:Nat))/\e.get 30=.v (.int .i64 (j:Nat))/\e.defers=[]/\H=h.push [.list k 1 (xs.map λa=>[a]),y]) ?_ aj.length _ _ ?_;rotate_left 1
 ·refine⟨0,cA _,rfl,?_,?_,?_,?_,?_,?_,?_,rfl⟩<;>exact gR
 rintro m e H ⟨j,hj,rfl,g2,g3,g6,g28,g29,g30,hd,rfl⟩;by_cases aA:j<aj.length
 ·have jF:sz=1:=kk.out.1 (by intro q;rw[q] at aA;simp at aA);subst jF;have xw:sa=1:=kk.out.2.1 (by intro q;rw[q] at yV;simp at yV;omega);subst xw;have fx:(j:Int)<(aj.length:Int):=by omega
  have awr:(j:Int)<(R.length:Int):=by omega
  have lc:=eE (H:=h.push [.list k 1 (xs.map λa=>[a]),y]) (l:=aj) (i:=j) (s:=1) aA;have lr:=eE (H:=h.push [.list k 1 (xs.map λa=>[a]),y]) (l:=R) (i:=j) (s:=1) ag;have he:bI (ai aj j)=ah:=by have:=kk.out.2.2;rw[ey] at this;exact this _ (by rw[fm aA];exact iW _)
  have c2:=Ky (ai aj j) (ai R j);have c3:=Es ((xU aj R j:Nat):Int) (eR (ai aj j) (ai R j));have hK:=tU (RH (row:=R) kk.out.2.2 j hj);have e3:jk ((xU aj R j:Nat):Int) (eR (ai aj j) (ai R j))=((xU aj R (j+1):Nat):Int):=by rw[AB hK (uR he _),sY he,aah,dV,dV]
  have e4:mS (ai aj j)=0:=by unfold mS;rw[aG he]
  have e5:nP ((xU aj R j:Nat):Int) (eR (ai aj j) (ai R j))=0:=by unfold nP;rw[aG ⟨hK,uR he _⟩]
  rw[e4] at c2;rw[e3,e5] at c3;clear he hK e3 e4 e5;generalize eR (ai aj j) (ai R j)=pw at *
  generalize ai aj j=cj at *
  generalize ai R j=rj at *
  unfold im at *
  refine cQ @FK @dE @bh ?_;exact⟨aj.length - (j+1),by omega,j+1,by omega,rfl,by simp⟩
 ·have:j=aj.length:=by omega
  subst this;have e:xU aj R aj.length=nG aj R:=rfl;refine br @FK ?_;exact⟨_,_,rfl,by rw[kr.out,<-e],.push _ _⟩
def tX(ae:List (List Int))(owners aj:List Int)(p:Int × Int):Bool × Int:=
 if js ae owners aj≠0 then (az,js ae owners aj) else if wF ae p=az then (az,340) else (decide (bF Gn p.2=nG aj (ae.getD p.1.toNat [])),0)
def aiU(h:aq)(x y z:AV)(ae:List (List Int))(owners aj:List Int)(hx:RL x ae)(hy:IL y owners)(hz:IL z aj)(hl:aj.length<=1000000)(a v:Int):
 ∃r h',W5.call 56 [.agg [x,y],z,.agg [im a,im v]] h=aa (r,h')/\r=.ret (.tuple [.v (.bool (tX ae owners aj (a,v)).1),im (tX ae owners aj (a,v)).2])/\Ext h h':=by
 have bx:=wy hx hy;have b2:(AV.agg [im a,im v]).bP=aa [im a,im v]:=rfl;have c1:=VK x y z ae owners aj hx hy hz hl;have c2:=apU x y ae owners hx hy a v;obtain⟨_,H2,c3,rfl,x3⟩:=aaj ((h.push [x,y]).push [im a,im v]) x y z ae owners aj hx hy hz hl a;have c4:=Ky 4 v;have e4:mS 4=0:=by unfold mS;rw[aG sX]
 rw[e4,sY sX] at c4;have q1:((h.push [x,y]).push [im a,im v]).boxes[h.boxes.length]?=aa [x,y]:=aY (aZ h [x,y]);have q2:=aZ (h.push [x,y]) [im a,im v];have l0:=vh q1;have l1:aH ao Gt ((h.push [x,y]).push [im a,im v]) 81 (.ptr (.box (h.push [x,y]).boxes.length) 0)=aa (.agg [im a,im v]):=by rw[iL av (by kernel_rfl:dt ao 81=aa 2) q2 (aJ 2)];rfl
 have l2:=QM q2;have l3:aH ao Gt H2 3 (.ptr (.box (h.push [x,y]).boxes.length) 1)=aa (im v):=QN (x3.box _ _ q2);have kX:=al.mk (((Ext.push h [x,y]).trans (.push _ [im a,im v])).trans x3);have X1:=al.mk ((Ext.push h [x,y]).trans (.push _ [im a,im v]));have o5:al (js ae owners aj≠0->tX ae owners aj (a,v)=(az,js ae owners aj)):=⟨λq=>by unfold tX;rw[aG q]⟩;have oy:al (js ae owners aj=0->wF ae (a,v)=az->tX ae owners aj (a,v)=(az,340)):=⟨λq p=>by unfold tX;rw[aI (by simp[q]),aG p]⟩;have HT:al (js ae owners aj=0->wF ae (a,v)=ah->tX ae owners aj (a,v)=(decide (bF Gn v=nG aj (ae.getD a.toNat [])),0)):=⟨λq p=>by unfold tX;rw[aI (by simp[q]),aI (by simp[p])]⟩;have uY:al (js ae owners aj=0->wF ae (a,v)=ah->uA ae owners aj a=(((nG aj (ae.getD a.toNat []):Nat):Int),0)):=⟨λq p=>by unfold wF at p;simp only[bC,decide_eq_true_eq] at p;unfold uA;rw[aI (by simp[q]),aI];rw[cE (ag:¬a<0),cE (ag:¬(ae.length:Int)<=a)];simp⟩;clear hx hy hz q1 q2 x3 e4;generalize tX ae owners aj (a,v)=res at *
 refine db rfl Tryz.func56 rfl ?_;by_cases h0:js ae owners aj=0;rotate_left 1
 ·have kr:=al.mk (o5.out h0);clear c3 c2 l3;generalize js ae owners aj=q at *
  unfold im at *
  refine bK @Si @bg ?_;exact⟨_,_,rfl,by rw[kr.out],X1.out⟩
 rw[h0] at c1;cases h1:wF ae (a,v) with
 |false=>
  have kr:=al.mk (oy.out h0 h1);rw[h1] at c2;clear c3 h1 h0 l3;unfold im at *
  refine bK @Si @bg ?_;exact⟨_,_,rfl,by rw[kr.out],X1.out⟩
 |true=>
  have kr:=al.mk (HT.out h0 h1);rw[uY.out h0 h1] at c3;rw[h1] at c2;clear h1 h0;have hG:(4:Int).toNat=Gn:=rfl;rw[hG] at c4;have hd:decide (bF Gn v=nG aj (ae.getD a.toNat []))=decide (((bF Gn v:Nat):Int)=((nG aj (ae.getD a.toNat []):Nat):Int)):=by rw[decide_eq_decide];omega
  rw[hd] at kr;generalize ((bF Gn v:Nat):Int)=p1 at *
  generalize ((nG aj (ae.getD a.toNat []):Nat):Int)=p2 at *
  clear o5 oy HT uY hd hG;unfold im at *
  refine bA @Si @bg @Kk @Kl ?_;exact⟨_,_,rfl,by rw[kr.out],kX.out⟩
def zI:Tryz.f44.results.toList=[.tmp 6,.tmp 7,.tmp 8]:=av
def N1{T E}{n}(hu:ao.underlying T=aa (.slice E))(hi:∃i,ao.info? E=aa i/\i.size=n/\i.bytes<=64/\(i.zero.map λz=>z.cells.size)=aa n)(hn:0<n){H}{k}{n0 sz}{es}{r}
 (hl:es.length<1000000) (hs:sz=n∨(es=[]/\k=.nil)) (hk:dm n0 H k):gN ao H #[T,T] (.list k sz es) (.list .tight n [r])=aa (.list (.free H.tn) n (es++[r]),H.app k):=by
 obtain⟨i,h1,q2,q3,h4⟩:=hi;have hb:=qG (ag:es.length+1<=1000000) q3;have:=GO (P:=ao) (h:=H) (n0:=n0) (k:=k) (sz:=sz) (es:=es) (new:=[r]) (x:=.list .tight n [r]) (t1:=T) hu (.inl ⟨E,hu⟩) h1 ag (by rw[q2];exact h4) (by rw[q2];unfold mX rowsOf;simp) bE (by simp;omega) (by simp;omega) (by rw[q2];exact hs) hk
 rwa [q2] at this
def YK:∃i,ao.info? 81=aa i/\i.size=2/\i.bytes<=64/\(i.zero.map λz=>z.cells.size)=aa 2:=by
 have h:(match ao.info? 81 with|some i=>jQ i.size 2&&NA i.bytes 64&&decide ((i.zero.map λz=>z.cells.size)=aa 2)|none=>az)=ah:=av;cases hi:ao.info? 81 with
 |none=>rw[hi] at h;cases h
 |some i=>rw[hi] at h;simp only[bC,decide_eq_true_eq] at h;exact⟨i,rfl,jW h.1.1,jR h.1.2,h.2⟩
def lI(p:Int × Int):List AV:=[.v (.int .i64 p.1),.v (.int .i64 p.2)]
def jq(l:List (Int × Int)):List (List AV):=l.map lI
def SL(x:AV)(l:List (Int × Int)):Prop:=∃k s,x=.list k s (jq l)/\(l≠[]->s=2)
def pK(ae:List (List Int))(s:List Int):List (Int × Int):=(bM ae.length).map λi=>(((i:Nat):Int),oQ (ae.getD i []) s)
def Ot(ae)(s):(pK ae s).length=ae.length:=by unfold pK;simp
def ah5{ae}{s r}{i}(h:ae[i]?=aa r):(pK ae s)[i]?=aa (((i:Nat):Int),oQ r s):=by unfold pK;have hi:=(aS.1 h).1;rw[ej,yx hi,ff,ez,h];rfl
def tT(ae:List (List Int))(owners:List Int)(b8:Int)(cB:List Int):Int:=
 if cW ae owners≠0 then cW ae owners else if bX b8&&cB.all bX&&decide ((cB.length:Int)=(bJ ae:Nat) - 1) then 0 else 1
def Gr(h H:aq)(t:Tok):Prop:=Ext h H/\cG H=ah/\dm h.tn H t
def Gr.app{h H}{t}(g:Gr h H t):Gr h (H.app t) (.free H.tn):=by have gr:=Grown.one g.2.2 g.2.1 g.1.tn;exact⟨gr.ext g.1 (aJ _),gr.ok,gr.can⟩
def Gr.push{h H}{t}(g:Gr h H t)(cs):Gr h (H.push cs) t:=⟨g.1.trans (.push _ _),g.2.1,by rw[An];exact g.2.2⟩
def Gr.nil{h H}(x:Ext h H)(o:cG H=ah):Gr h H .nil:=⟨x,o,.inl rfl⟩
def afI(x y)(hx:x.ek=ah)(hy:y.ek=ah):gf ao 22 2 [(0,x),(1,y)]=aa (.list .tight 1 [[x],[y]]):=by cases x<;>first|(cases hx;done)|(cases y<;>first|(cases hy;done)|kernel_rfl)
def IL.ek{x}{l}(h:IL x l):x.ek=ah:=by obtain⟨k,s,rfl,-⟩:=h;rfl
def UR(a b):gf ao 36 1 [(0,.agg [.v (.int .i64 a),.v (.int .i64 b)])]=aa (.list .tight 2 [[.v (.int .i64 a),.v (.int .i64 b)]]):=av
def afd(a b):mz ao 81 [(0,.v (.int .i64 a)),(1,.v (.int .i64 b))]=aa (.agg [.v (.int .i64 a),.v (.int .i64 b)]):=av
def ah3(h:aq)(bq:cG h=ah)(x y z:AV)(ae:List (List Int))(owners cB:List Int)(b8:Int)(hx:RL x ae)(hy:IL y owners)(hz:IL z cB)(hl:cB.length<=1000)(lQ:ae.length<=1000000):
 ∃r h',W5.call 44 [.agg [x,y],im b8,z] h=aa (r,h')/\
  ((tT ae owners b8 cB≠0/\r=.ret (.tuple [.list .nil 0 [],.list .nil 0 [],im (tT ae owners b8 cB)]))∨
  (tT ae owners b8 cB=0/\∃t1 s1 t2 s2,r=.ret (.tuple [.list t1 s1 (jq (pK ae (b8::cB))),.list t2 s2 (ints (cI (b8::cB))),im 0])/\(pK ae (b8::cB)≠[]->s1=2)/\s2=1)):=by
 have bx:=wy hx hy;have c1:=Vr x y ae owners hx hy;have c2:=ZJ (.list .tight 1 [[.v (.int .i64 b8)]]) [b8] (K9 b8) bE;rw[(bE:[b8].all bX=bX b8)] at c2;have c3:=ZJ z cB hz ag;have c4:=ahl x y ae owners hx hy;obtain⟨z2,gG,c5⟩:=ahz (.list .tight 1 [[.v (.int .i64 b8)]]) z [b8] cB (K9 b8) hz (by simp;omega);have b0:=aZ h [x,y];have l0:=vh b0;have l1:=rZ b0;have lz:=hz.dM;have bl:=pI b8;have blt:=afI (.list .tight 1 [[.v (.int .i64 b8)]]) z rfl hz.ek;have lx:=hx.dM;have o5:al (cW ae owners≠0->tT ae owners b8 cB=cW ae owners):=⟨λq=>by unfold tT;rw[aG q]⟩;have oy:al (cW ae owners=0->tT ae owners b8 cB=if bX b8&&cB.all bX&&decide ((cB.length:Int)=(bJ ae:Nat) - 1) then 0 else 1):=⟨λq=>by unfold tT;rw[aI (by simp[q])]⟩;have kok:=al.mk (λq=>@rk ae owners q);have kcp:=al.mk (λq=>@sU ae owners q);have kx:=al.mk (aw hx gG);have Cn:(bJ ae:Int)<=1000000∨cW ae owners≠0:=by
  by_cases q:cW ae owners=0
  ·have:=(sU q).2;exact .inl ag
  ·exact .inr q
 clear hx hy hz b0 gG;generalize tT ae owners b8 cB=res at *
 unfold im at *
 refine db rfl Tryz.func44 rfl ?_;by_cases h0:cW ae owners=0;rotate_left 1
 ·have e1:=o5.out h0;have kr:=al.mk (aw h0 e1);clear e1 Cn c2 c3 c4 c5;generalize cW ae owners=q at *
  refine bK @zI @bg ?_;exact⟨_,_,rfl,.inl ⟨by rw[kr.out.2];exact kr.out.1,by rw[kr.out.2]⟩⟩
 rw[h0] at c1;have ij:=oy.out h0;have Xn:=kcp.out h0;have hw:IntKind.i64.wrap ((bJ ae:Nat) - 1:Int)=(bJ ae:Nat) - 1:=fN ag ag;clear o5 oy kcp Cn;have bad:∀(q:(bX b8&&cB.all bX&&decide ((cB.length:Int)=(bJ ae:Nat) - 1))=az),res=1:=λq=>by rw[ij,aI (by simp[q])]
 have good:∀(q:(bX b8&&cB.all bX&&decide ((cB.length:Int)=(bJ ae:Nat) - 1))=ah),res=0:=λq=>by rw[ij,aG q]
 have kb:=al.mk bad;have kg:=al.mk good;clear bad good ij;cases h1:bX b8 with
 |false=>rw[h1] at c2;have kr:al (res=1):=⟨kb.out (by rw[h1];rfl)⟩;clear h1 h0 c3 c4 c5;refine bK @zI @bg ?_;exact⟨_,_,rfl,.inl ⟨by rw[kr.out];decide,by rw[kr.out]⟩⟩
 |true=>
 rw[h1] at c2;cases h2:cB.all bX with
 |false=>rw[h2] at c3;have kr:al (res=1):=⟨kb.out (by rw[h1,h2];rfl)⟩;clear h1 h2 h0 c4 c5;refine bK @zI @bg ?_;exact⟨_,_,rfl,.inl ⟨by rw[kr.out];decide,by rw[kr.out]⟩⟩
 |true=>
 rw[h2] at c3;by_cases h3:(cB.length:Int)=(bJ ae:Nat) - 1;rotate_left 1
 ·have d3:decide ((cB.length:Int)=((bJ ae:Nat):Int) - 1)=az:=cE h3;have kr:al (res=1):=⟨kb.out (by rw[h1,h2,d3];rfl)⟩;clear h1 h2 h3 h0 c5;refine bK @zI @bg ?_;exact⟨_,_,rfl,.inl ⟨by rw[kr.out];decide,by rw[kr.out]⟩⟩
 have d3:decide ((cB.length:Int)=((bJ ae:Nat):Int) - 1)=ah:=bQ h3;have kr:al (res=0):=⟨kg.out (by rw[h1,h2,d3];rfl)⟩;have nC:(b8::cB).length=bJ ae:=by simp;omega
 obtain⟨w1,w2,w3,w4⟩:=kok.out h0;have kw:=al.mk w3;have ks:=al.mk nC;rw[List.singleton_append] at kx;obtain⟨k,s,xs,rfl,hs,dN,eH⟩:=kx.out.1;obtain⟨kz,sz,rfl,dL⟩:=kx.out.2;have kk:=al.mk (aw hs (aw eH dL));have ak5:sz=1:=dL bE;subst ak5;have u23:=dQ;have u22:=ji;have u36:=Tryz.underlying36;have z23:=il;have z3:=fP;have cS:(xs.map λa=>[a]).length=ae.length:=by rw[bu];exact dN
 have y8:=dD (b8::cB);clear hs eH dL w1 w3 w4 h1 h2 h3 h0 nC kok kb kg;generalize hS:b8::cB=S at *
 refine cQ @zI @bg @dE ?_;refine bH.gen λe0 aF bB cU cN=>?_;have f6:e0.get 6=.list .nil 0 []:=by rw[aF];exact gS
 have f7:e0.get 7=.list .nil 0 []:=by rw[aF];exact gS
 have f10:e0.get 10=.list kz 1 (ints S):=by rw[aF];exact gS
 have f45:e0.get 45=.list k s (xs.map λa=>[a]):=by rw[aF];exact gS
 have f46:e0.get 46=.v (.int .i64 (ae.length:Nat)):=by rw[aF];exact gS
 have f47:e0.get 47=.v (.int .i64 (0:Nat)):=by rw[aF];exact gR
 have fd:e0.defers=[]:=by rw[bB];exact gS
 clear aF bB cU cN c1 c2 c3 c4 c5 l0 l1 bl blt hw d3 lz;refine cz (λm e H=>∃(i:Nat) (t:Tok) (sz:Nat),i<=ae.length/\m=ae.length - i/\al (Gr h H t)/\al (sz=2∨(jq ((pK ae S).take i)=[]/\t=.nil))/\e.get 6=.list t sz (jq ((pK ae S).take i))/\e.get 7=.list .nil 0 []/\e.get 10=.list kz 1 (ints S)/\e.get 45=.list k s (xs.map λa=>[a])/\e.get 46=.v (.int .i64 (ae.length:Nat))/\e.get 47=.v (.int .i64 (i:Nat))/\e.defers=[]) ?_ ae.length _ _ ?_;rotate_left 1
 ·exact⟨0,.nil,0,cA _,rfl,⟨Gr.nil (.push _ _) bq⟩,⟨.inr ⟨rfl,rfl⟩⟩,f6,f7,f10,f45,f46,f47,fd⟩
 clear f6 f7 f10 f45 f46 f47 fd;rintro m e H ⟨i,t,sz,hi,rfl,kG,ksz,g6,g7,g10,g45,g46,g47,hd⟩;by_cases aA:i<ae.length
 ·have bD:s=1:=kk.out.1 (by intro q;rw[q] at aA;simp at aA);subst bD;obtain⟨a,gh⟩:∃a,xs[i]?=aa a:=⟨_,aR ag⟩;obtain⟨r,hv⟩:∃r,ae[i]?=aa r:=⟨_,aR aA⟩;have ld:=lV (H:=H) (s:=1) gh;have Ym:=kk.out.2.1 i a r gh hv;have ES:=kw.out r (dj hv);have c6:=auV a (.list kz 1 (ints S)) r S Ym ⟨_,_,rfl,λ_=>rfl⟩ ag (by have:=ks.out;omega);have fx:(i:Int)<(ae.length:Int):=by omega
  have ap:=N1 (T:=36) (r:=lI (((i:Nat):Int),oQ r S)) u36 YK aV (by unfold jq;rw[bu,eS];omega) ksz.out kG.out.2.2;have kG2:=al.mk kG.out.app;have e9:jq ((pK ae S).take i)++[lI (((i:Nat):Int),oQ r S)]=jq ((pK ae S).take (i+1)):=by rw[ft (ah5 hv)];unfold jq;simp
  rw[e9] at ap;clear gh hv Ym ES e9;generalize oQ r S=dv at *
  unfold im lI at *
  refine bA @zI @bh @afd @UR ?_;exact⟨ae.length - (i+1),by omega,i+1,_,2,by omega,rfl,kG2,⟨.inl rfl⟩,by simp⟩
 have fF:i=ae.length:=by omega
 subst fF;rw[gm (by rw[Ot];exact aJ _)] at g6 ksz;have kX:=al.mk kG.out.1;have ko:=al.mk kG.out.2.1;clear kG;refine br @zI ?_;refine bH.gen λe0 aF bB cU cN=>?_;have f6:e0.get 6=.list t sz (jq (pK ae S)):=by rw[aF];simp only[gW,reduceIte,aO,aM];exact g6
 have f7:e0.get 7=.list .nil 0 []:=by rw[aF];simp only[gW,reduceIte,aO,aM];exact g7
 have f61:e0.get 61=.list kz 1 (ints S):=by rw[aF];exact gS
 have f62:e0.get 62=.v (.int .i64 (S.length:Nat)):=by rw[aF];exact gS
 have f63:e0.get 63=.v (.int .i64 (0:Nat)):=by rw[aF];exact gR
 have fd:e0.defers=[]:=by rw[bB];simp only[gW,reduceIte,aO,aM];exact hd
 clear aF bB cU cN g6 g7 g10 g45 g46 g47 hd;have hSl:S.length<=1001:=by rw[<-hS];simp;omega
 have e4:mS 4=0:=by unfold mS;rw[aG sX]
 clear hS;have de:(cI S).length=S.length:=by unfold cI;simp
 refine cz (λm e H2=>∃(j:Nat) (t2:Tok) (sz2:Nat),j<=S.length/\m=S.length - j/\al (Gr h H2 t2)/\al (sz2=1∨((cI S).take j=[]/\t2=.nil))/\e.get 6=.list t sz (jq (pK ae S))/\e.get 7=.list t2 sz2 (ints ((cI S).take j))/\e.get 61=.list kz 1 (ints S)/\e.get 62=.v (.int .i64 (S.length:Nat))/\e.get 63=.v (.int .i64 (j:Nat))/\e.defers=[]) ?_ S.length _ _ ?_;rotate_left 1
 ·exact⟨0,.nil,0,cA _,rfl,⟨Gr.nil kX.out ko.out⟩,⟨.inr ⟨rfl,rfl⟩⟩,f6,f7,f61,f62,f63,fd⟩
 clear f6 f7 f61 f62 f63 fd;rintro m e H2 ⟨j,t2,sz2,hj,rfl,kG,ksz2,g6,g7,g61,g62,g63,hd⟩;by_cases rQ:j<S.length
 ·have ld:=eE (H:=H2) (l:=S) (i:=j) (s:=1) rQ;have c2:=Ky 4 (ai S j);rw[e4,sY sX] at c2;have hG:(4:Int).toNat=Gn:=rfl;rw[hG] at c2;have fx:(j:Int)<(S.length:Int):=by omega
  have hv:(cI S)[j]?=aa ((bF Gn (ai S j):Nat):Int):=by unfold cI;rw[ej,aR rQ,fm rQ];rfl
  have ap:=tQ (x:=((bF Gn (ai S j):Nat):Int)) (es:=(cI S).take j) (by rw[eS];omega) ksz2.out kG.out.2.2;have kG2:=al.mk kG.out.app;rw[<-ft hv] at ap;have bl:=pI ((bF Gn (ai S j):Nat):Int);clear hv hG;generalize ((bF Gn (ai S j):Nat):Int)=pv at *
  generalize ai S j=sj at *
  unfold im at *
  refine bK @zI @bh ?_;exact⟨S.length - (j+1),by omega,j+1,_,1,by omega,rfl,kG2,⟨.inl rfl⟩,by simp⟩
 ·have nS:j=S.length:=by omega
  subst nS;rw[gm ag] at g7 ksz2;refine br @zI ?_;refine⟨_,_,rfl,.inr ⟨kr.out,_,_,_,_,rfl,λq=>?_,?_⟩⟩
  ·rcases ksz.out with z|⟨z,-⟩
   ·exact z
   ·exact absurd (List.map_eq_nil_iff.1 z) q
  ·rcases ksz2.out with z|⟨z,-⟩
   ·exact z
   ·exfalso;have h1:=ks.out;have h2:(cI S).length=0:=(by rw[z];rfl);omega
def Mi:Tryz.f75.results.toList=[.tmp 2]:=av
def bU(p:Pr):List AV:=[.v (.int .i64 p.aB),.v (.int .i64 p.no),.v (.int .i64 p.d),.v (.int .i64 p.e)]
def Dw:(gZ ao 85).bind AV.bP=aa (bU ⟨0,0,0,0⟩):=av
def uD:dt ao 85=aa 4:=av
def Uu:gI ao 85=aa ah:=av
def afe(a b c d):mz ao 85 [(0,.v (.int .i64 a)),(1,.v (.int .i64 b)),(2,.v (.int .i64 c)),(3,.v (.int .i64 d))]=aa (.agg (bU ⟨a,b,c,d⟩)):=av
def Bm{H:aq}(p):b7 ao (H.push (bU ⟨0,0,0,0⟩)) 85 (.ptr (.box H.boxes.length) 0) (.agg (bU p))=aa (H.push (bU p)):=jx rfl uD rfl rfl
def C5{H}{b}{p}(hb:H.boxes[b]?=aa (bU p)):aH ao Gt H 85 (.ptr (.box b) 0)=aa (.agg (bU p)):=by rw[iL Uu uD hb (aJ 4)];rfl
def yg(ae:List (List Int))(owners:List Int):Bool:=decide (ae.length<=16)&&decide (cW ae owners=0)&&decide (bJ ae<=16)
def ats(h:aq)(x y:AV)(ae:List (List Int))(owners:List Int)(hx:RL x ae)(hy:IL y owners):
 ∃r h',W5.call 75 [.agg [x,y]] h=aa (r,h')/\r=.ret (.v (.bool (yg ae owners))):=by
 have bx:=wy hx hy;have c1:=λ(q:ae.length<=16)=>RM x y ae owners hx hy ag;have c2:=VA x y ae owners hx hy;have b0:=aZ h [x,y];have l0:=vh b0;have l1:=rZ b0;have ln:=hx.dM;have kv:al (yg ae owners=(decide (ae.length<=16)&&decide (cW ae owners=0)&&decide (bJ ae<=16))):=⟨rfl⟩;clear hx hy b0;generalize yg ae owners=res at *
 unfold im at *
 refine db rfl Tryz.func75 rfl ?_;by_cases h1:ae.length<=16;rotate_left 1
 ·have d1:decide ((ae.length:Int)<=16)=az:=cE ag;have kr:al (res=az):=⟨by rw[kv.out,cE h1];rfl⟩;clear h1 c1;refine cQ @Mi @bg @dE ?_;exact⟨_,_,rfl,by rw[kr.out]⟩
 have d1:decide ((ae.length:Int)<=16)=ah:=bQ ag;have c1:=c1 h1;by_cases h2:cW ae owners=0;rotate_left 1
 ·have d2:decide (cW ae owners=0)=az:=cE h2;have kr:al (res=az):=⟨by rw[kv.out,d2];simp⟩;clear h1;generalize cW ae owners=q at *
  refine cQ @Mi @bg @dE ?_;exact⟨_,_,rfl,by rw[kr.out]⟩
 rw[h2] at c1;by_cases h3:bJ ae<=16
 ·have d3:decide (((bJ ae:Nat):Int)<=16)=ah:=bQ ag;have kr:al (res=ah):=⟨by rw[kv.out,bQ h1,bQ h2,bQ h3];rfl⟩;clear h1 h2 h3;refine cQ @Mi @bg @dE ?_;exact⟨_,_,rfl,by rw[kr.out]⟩
 ·have d3:decide (((bJ ae:Nat):Int)<=16)=az:=cE ag;have kr:al (res=az):=⟨by rw[kv.out,cE h3];simp⟩;clear h1 h2 h3;refine cQ @Mi @bg @dE ?_;exact⟨_,_,rfl,by rw[kr.out]⟩
def MJ(n:Int):List AV:=[.v (.int .u32 n)]
def UL(x:AV)(l:List Int):Prop:=(∃k s,x=.list k s (l.map MJ)/\(l≠[]->s=1))/\∀n∈l,0<=n/\n<4294967296
def Bf(owners ar:List Int)(p:Int × Int):List (Int × Int):=(ar.filter λn=>decide (n=ai owners p.1.toNat)).map λ_=>p
def qY(owners ar:List Int)(l:List (Int × Int)):List (Int × Int):=l.flatMap (Bf owners ar)
def anf{owners ar}{l:List (Int × Int)}{i}{p}(h:l[i]?=some p):qY owners ar (l.take (i+1))=qY owners ar (l.take i)++Bf owners ar p:=by unfold qY;rw[ft h,List.flatMap_append];simp
def an1(owners ar)(p):(Bf owners ar p).length<=ar.length:=by unfold Bf;rw[bu];exact List.length_filter_le _ _
def Rf(owners ar):∀l:List (Int × Int),(qY owners ar l).length<=l.length * ar.length
 | []=>by simp[qY]
 |p::l=>by
  have h1:=an1 owners ar p;have h2:=Rf owners ar l;unfold qY at *
  rw[List.flatMap_cons,dw,iP,gJ];omega
def alR{H}{l}{i s}{p}(h:l[i]?=aa p):aH ao Gt H 3 (.elem s (jq l) i 0)=aa (.v (.int .i64 p.1)):=by rw[r8 eD (row:=lI p) (by unfold jq;rw[ej,h];rfl)];rfl
def alS{H}{l}{i s}{p}(h:l[i]?=aa p):aH ao Gt H 3 (.elem s (jq l) i 1)=aa (.v (.int .i64 p.2)):=by rw[r8 eD (row:=lI p) (by unfold jq;rw[ej,h];rfl)];rfl
def Ut:gI ao 81=aa ah:=av
def MH:dt ao 81=aa 2:=av
def Zc{H}{l}{i s}{p}(h:l[i]?=aa p):aH ao Gt H 81 (.elem s (jq l) i 0)=aa (.agg [.v (.int .i64 p.1),.v (.int .i64 p.2)]):=by rw[Lj Ut MH (row:=lI p) (by unfold jq;rw[ej,h];rfl) (aJ 2)];rfl
def Ay{sz i}{es}:gg ao 81 (.elem sz es i 0) 0=aa (.elem sz es i 0):=av
def VY{sz i}{es}:gg ao 81 (.elem sz es i 0) 1=aa (.elem sz es i 1):=av
def SA(l):(jq l).length=l.length:=bu _
def as3(l)(p):jq l++[lI p]=jq (l++[p]):=by unfold jq;simp
def LS:Tryz.f124.results.toList=[.tmp 4]:=av
def RV:Tryz.f113.results.toList=[.tmp 4]:=av
def Sl:Tryz.f71.results.toList=[.tmp 4]:=av
def fb(l:List Pr):List (List AV):=l.map bU
def xT(l):(fb l).length=l.length:=bu _
def PL(x:AV)(l:List Pr):Prop:=∃k s,x=.list k s (fb l)/\(l≠[]->s=4)
def C6{H}{l}{i s}{p}(h:l[i]?=aa p):aH ao Gt H 85 (.elem s (fb l) i 0)=aa (.agg (bU p)):=by rw[Lj Uu uD (row:=bU p) (by unfold fb;rw[ej,h];rfl) (aJ 4)];rfl
def PL.dM{x}{l}(h:PL x l):dM ao 29 x=aa (.v (.int .i64 (l.length:Nat))):=by obtain⟨k,s,rfl,-⟩:=h;have u29:=yC;unfold Go.AE.dM;rw[u29];simp only[xT]
def alg(g:FuncId)(aD:List AV)(p:Pr->Bool)(h:aq)(x:AV)(l:List Pr)(hx:PL x l)(hl:l.length<=1000000)
 (hp:∀q∈l,∀H,Ext h H->∃H',W5.call g (.agg (bU q)::aD) H=aa (.ret (.v (.bool (p q))),H')/\Ext H H'):
 ∃r h',W5.call 124 [x,.func (.func g) [] aD] h=aa (r,h')/\Ext h h'/\((l.find? p=au/\r=.ret (im (-1)))∨∃(i:Nat) (q:Pr),r=.ret (im (i:Nat))/\l[i]?=aa q/\l.find? p=aa q):=by
 obtain⟨k,s,rfl,hs⟩:=hx;have kp:=al.mk (aw hp hs);clear hp hs;have u29:=yC;have z85:=uD;have cS:=xT l;unfold im;refine db rfl Tryz.func124 rfl ?_;refine br @LS ?_;refine cz (λm e H=>∃i:Nat,i<=l.length/\m=l.length - i/\al ((l.take i).find? p=au)/\al (Ext h H)/\e.get 0=.list k s (fb l)/\e.get 1=.func (.func g) [] aD/\e.get 7=.v (.int .i64 (l.length:Nat))/\e.get 8=.v (.int .i64 (i:Nat))/\e.defers=[]) ?_ l.length _ _ ?_;rotate_left 1
 ·refine⟨0,cA _,rfl,⟨rfl⟩,⟨.refl _⟩,?_,?_,?_,?_,?_⟩<;>exact gR
 rintro m e H ⟨i,hi,rfl,ka,kX,g0,g1,g7,g8,hd⟩;by_cases aA:i<l.length
 ·have bD:s=4:=kp.out.2 (by intro q;rw[q] at aA;simp at aA);subst bD;obtain⟨q,hq⟩:∃q,l[i]?=aa q:=⟨_,aR aA⟩;have ld:=C6 (H:=H) (s:=4) hq;obtain⟨H',hc,hX⟩:=kp.out.1 q (dj hq) H kX.out;have kX2:=al.mk (kX.out.trans hX);have fx:(i:Int)<(l.length:Int):=by omega
  have kq:=al.mk hq;have kt:=al.mk (ft hq);clear hX hq;cases eL:p q with
  |true=>rw[eL] at hc;have Xw:l.find? p=aa q:=(by have e:l=l.take i++q::l.drop (i+1):=(by rw[<-List.getElem_of_getElem? kq.out|>.2];simp);rw[e,ac3,ka.out,List.find?_cons_of_pos eL];rfl);have kf:=al.mk Xw;clear Xw eL;refine cQ @LS @bh @kL.{0} ?_;exact⟨_,_,rfl,kX2.out,.inr ⟨i,q,rfl,kq.out,kf.out⟩⟩
  |false=>rw[eL] at hc;have kt2:al ((l.take (i+1)).find? p=au):=⟨by rw[kt.out,ac3,ka.out];simp[eL]⟩;clear eL;refine cQ @LS @bh @kL.{0} ?_;exact⟨l.length - (i+1),by omega,i+1,by omega,rfl,kt2,by first|exact kX2|trivial,by simp⟩
 ·have:i=l.length:=by omega
  subst this;have:=ka.out;rw[fC] at this;have kan:=al.mk this;clear this;refine br @LS ?_;exact⟨_,_,rfl,kX.out,.inl ⟨kan.out,rfl⟩⟩
def OP{a b}(ha:elem a=ah)(hb:elem b=ah):jk ((a:Nat):Int) ((b:Nat):Int)=((a * b%P:Nat):Int):=by rw[AB (tU ha) (tU hb),dV,dV]
def De{α:Type}{f:α->Nat}:∀{l:List α} (_:∀p∈l,elem (f p)=ah) {k:Nat} (_:elem k=ah),elem (l.foldl (λx p=>x * f p%P) k)=ah
 | [],_,_,hk=>hk
 |a::l,h,k,hk=>De (l:=l) (λp hp=>h p (fE _ hp)) (G7 hk (h a fW))
def aoG(g:FuncId)(first aD:List AV)(f:Pr->Nat)(h:aq)(x:AV)(l:List Pr)(hx:PL x l)(hl:l.length<=1000000)(he:∀q∈l,elem (f q)=ah)
 (hp:∀q∈l,∀H,Ext h H->∃H',W5.call g (first++[.agg (bU q)]++aD) H=aa (.ret (im (f q:Nat)),H')/\Ext H H'):
 ∃r h',W5.call 113 [x,.func (.func g) first aD] h=aa (r,h')/\Ext h h'/\r=.ret (im ((l.foldl (λx q=>x * f q%P) 1:Nat):Int)):=by
 obtain⟨k,s,rfl,hs⟩:=hx;have kp:=al.mk (aw hp (aw hs he));clear hp hs he;have u29:=yC;have z85:=uD;have zc:=Dw;have cS:=xT l;unfold im;refine db rfl Tryz.func113 rfl ?_;refine br @RV ?_;refine cz (λm e H=>∃i:Nat,i<=l.length/\m=l.length - i/\al (Ext h H)/\e.get 1=.func (.func g) first aD/\e.get 5=.v (.int .i64 (((l.take i).foldl (λx q=>x * f q%P) 1:Nat):Int))/\e.get 8=.list k s (fb l)/\e.get 9=.v (.int .i64 (l.length:Nat))/\e.get 10=.v (.int .i64 (i:Nat))/\e.defers=[]) ?_ l.length _ _ ?_;rotate_left 1
 ·refine⟨0,cA _,rfl,⟨.refl _⟩,?_,?_,?_,?_,?_,?_⟩<;>exact gR
 rintro m e H ⟨i,hi,rfl,kX,g1,g5,g8,g9,g10,hd⟩;by_cases aA:i<l.length
 ·have bD:s=4:=kp.out.2.1 (by intro q;rw[q] at aA;simp at aA);subst bD;obtain⟨q,hq⟩:∃q,l[i]?=aa q:=⟨_,aR aA⟩;have hm:=dj hq;have ld:=C6 (H:=H) (s:=4) hq;have st:=Bm (H:=H) q;have l2:=C5 (aZ H (bU q));obtain⟨H',hc,hX⟩:=kp.out.1 q hm (H.push (bU q)) (kX.out.trans (.push _ _));have kX2:=al.mk ((kX.out.trans (.push H (bU q))).trans hX);have fx:(i:Int)<(l.length:Int):=by omega
  have eacc:elem ((l.take i).foldl (λx q=>x * f q%P) 1)=ah:=De (λp hp=>kp.out.2.2 p (pE hp)) At;have c2:=Es (((l.take i).foldl (λx q=>x * f q%P) 1:Nat):Int) ((f q:Nat):Int);have e2:nP (((l.take i).foldl (λx q=>x * f q%P) 1:Nat):Int) ((f q:Nat):Int)=0:=by unfold nP;rw[aG ⟨tU eacc,tU (kp.out.2.2 q hm)⟩]
  have e3:(l.take i).foldl (λx q=>x * f q%P) 1 * f q%P=(l.take (i+1)).foldl (λx q=>x * f q%P) 1:=by rw[ft hq,oj];rfl
  rw[OP eacc (kp.out.2.2 q hm),e2,e3] at c2;clear hX hq e2 e3 eacc hm;generalize (l.take i).foldl (λx q=>x * f q%P) 1=acc at *
  generalize Hg:(l.take (i+1)).foldl (λx q=>x * f q%P) 1=Uj at *
  have kA:=al.mk Hg;clear Hg;generalize f q=fq at *
  unfold im at *
  refine cQ @RV @bh @kL.{0} ?_;exact⟨l.length - (i+1),by omega,i+1,by omega,rfl,by first|exact kX2|trivial,by simp[kA.out]⟩
 ·have:i=l.length:=by omega
  subst this;rw[fC] at g5;refine br @RV ?_;exact⟨_,_,rfl,kX.out,rfl⟩
def aoH(g:FuncId)(first aD:List AV)(f:Int->Nat)(h:aq)(x:AV)(l:List Int)(hx:IL x l)(hl:l.length<=1000000)(he:∀q∈l,elem (f q)=ah)
 (hp:∀q∈l,∀H,Ext h H->∃H',W5.call g (first++[im q]++aD) H=aa (.ret (im (f q:Nat)),H')/\Ext H H'):
 ∃r h',W5.call 71 [x,.func (.func g) first aD] h=aa (r,h')/\Ext h h'/\r=.ret (im ((l.foldl (λx q=>x * f q%P) 1:Nat):Int)):=by
 obtain⟨k,s,rfl,hs⟩:=hx;have kp:=al.mk (aw hp (aw hs he));clear hp hs he;have u23:=dQ;have z3:=fP;have cS:=dD l;unfold im;refine db rfl Tryz.func71 rfl ?_;refine br @Sl ?_;refine cz (λm e H=>∃i:Nat,i<=l.length/\m=l.length - i/\al (Ext h H)/\e.get 1=.func (.func g) first aD/\e.get 5=.v (.int .i64 (((l.take i).foldl (λx q=>x * f q%P) 1:Nat):Int))/\e.get 8=.list k s (ints l)/\e.get 9=.v (.int .i64 (l.length:Nat))/\e.get 10=.v (.int .i64 (i:Nat))/\e.defers=[]) ?_ l.length _ _ ?_;rotate_left 1
 ·refine⟨0,cA _,rfl,⟨.refl _⟩,?_,?_,?_,?_,?_,?_⟩<;>exact gR
 rintro m e H ⟨i,hi,rfl,kX,g1,g5,g8,g9,g10,hd⟩;by_cases aA:i<l.length
 ·have bD:s=1:=kp.out.2.1 (by intro q;rw[q] at aA;simp at aA);subst bD;have hq:l[i]?=aa (ai l i):=by rw[aR aA,fm aA]
  have hm:=dj hq;have ld:=eE (H:=H) (s:=1) aA;generalize ai l i=q at *
  obtain⟨H',hc,hX⟩:=kp.out.1 q hm H kX.out;unfold im at hc;have kX2:=al.mk (kX.out.trans hX);have fx:(i:Int)<(l.length:Int):=by omega
  have eacc:elem ((l.take i).foldl (λx q=>x * f q%P) 1)=ah:=De (λp hp=>kp.out.2.2 p (pE hp)) At;have c2:=Es (((l.take i).foldl (λx q=>x * f q%P) 1:Nat):Int) ((f q:Nat):Int);have e2:nP (((l.take i).foldl (λx q=>x * f q%P) 1:Nat):Int) ((f q:Nat):Int)=0:=by unfold nP;rw[aG ⟨tU eacc,tU (kp.out.2.2 q hm)⟩]
  have e3:(l.take i).foldl (λx q=>x * f q%P) 1 * f q%P=(l.take (i+1)).foldl (λx q=>x * f q%P) 1:=by rw[ft hq,oj];rfl
  rw[OP eacc (kp.out.2.2 q hm),e2,e3] at c2;clear hX hq e2 e3 eacc hm;generalize (l.take i).foldl (λx q=>x * f q%P) 1=acc at *
  generalize Hg:(l.take (i+1)).foldl (λx q=>x * f q%P) 1=Uj at *
  have kA:=al.mk Hg;clear Hg;generalize f q=fq at *
  unfold im at *
  refine cQ @Sl @bh @kL.{0} ?_;exact⟨l.length - (i+1),by omega,i+1,by omega,rfl,by first|exact kX2|trivial,by simp[kA.out]⟩
 ·have:i=l.length:=by omega
  subst this;rw[fC] at g5;refine br @Sl ?_;exact⟨_,_,rfl,kX.out,rfl⟩
def Bi:Tryz.f111.results.toList=[.tmp 2]:=av
def arB:Tryz.f161.results.toList=[.tmp 2]:=av
def aa3:Tryz.f49.results.toList=[.tmp 4]:=av
def Mh:Tryz.f70.results.toList=[.tmp 4]:=av
def vO{b}:gg ao 27 (.ptr (.box b) 0) 0=aa (.ptr (.box b) 0):=av
def gL{b}:gg ao 27 (.ptr (.box b) 0) 1=aa (.ptr (.box b) 1):=av
def gV{b}:gg ao 27 (.ptr (.box b) 0) 2=aa (.ptr (.box b) 3):=av
def Ax{b}:gg ao 25 (.ptr (.box b) 1) 0=aa (.ptr (.box b) 1):=av
def aiJ{b}:gg ao 25 (.ptr (.box b) 1) 1=aa (.ptr (.box b) 2):=av
def rI:(∀b,gg ao 98 (.ptr (.box b) 0) 0=aa (.ptr (.box b) 0))/\(∀b,gg ao 98 (.ptr (.box b) 0) 1=aa (.ptr (.box b) 4))/\(∀b,gg ao 98 (.ptr (.box b) 0) 2=aa (.ptr (.box b) 5))/\(∀b,gg ao 98 (.ptr (.box b) 0) 3=aa (.ptr (.box b) 6))/\
 (∀b,gg ao 98 (.ptr (.box b) 0) 4=aa (.ptr (.box b) 7))/\(∀b,gg ao 98 (.ptr (.box b) 0) 5=aa (.ptr (.box b) 11))/\∀b,gg ao 98 (.ptr (.box b) 0) 6=aa (.ptr (.box b) 12):=
 ⟨λ_=>av,λ_=>av,λ_=>av,λ_=>av,λ_=>av,λ_=>av,λ_=>av⟩
def VX{b}:gg ao 96 (.ptr (.box b) 7) 3=aa (.ptr (.box b) 10):=av
def iR:(∀b,gg ao 85 (.ptr (.box b) 0) 0=aa (.ptr (.box b) 0))/\(∀b,gg ao 85 (.ptr (.box b) 0) 1=aa (.ptr (.box b) 1))/\(∀b,gg ao 85 (.ptr (.box b) 0) 2=aa (.ptr (.box b) 2))/\∀b,gg ao 85 (.ptr (.box b) 0) 3=aa (.ptr (.box b) 3):=
 ⟨λ_=>av,λ_=>av,λ_=>av,λ_=>av⟩
def ct{H}{t}{b j}{cs}{x}(ha:gI ao t=aa az)(hb:H.boxes[b]?=aa cs)(hj:cs[j]?=aa x):aH ao Gt H t (.ptr (.box b) j)=aa x:=by rw[mJ ha hb,List.head?_drop,hj]
def JR:gI ao 28=aa az:=av
def yH:gI ao 29=aa az:=av
def w8:gI ao 90=aa az:=av
def aN(ep:Int)(X Y C:AV):List AV:=[.v (.int .i64 ep),X,Y,C]
def ir(ep:Int)(X Y C T L Wt All:AV)(pt ch:Int):List AV:=[.v (.int .i64 ep),X,Y,C,T,L,Wt,.v (.int .i64 3),.v (.int .i64 0),sv [],All,.v (.int .i64 pt),.v (.int .i64 ch)]
def lH(ae:List (List Int))(ep:Int)(aj:List Int):Bool:=decide (0<=ep)&&decide (ep<=64)&&decide (aj.length=bJ ae)&&aj.all bI
def avj(n)(h):W5.call 161 [im n] h=aa (.ret (.v (.bool (!bI n))),h):=by
 have c:=MM n;unfold im at *
 refine cJ rfl Tryz.func161 rfl ?_;exact lP @arB
def uu{ep}{X Y C}{ae}{owners aj}(hx:RL X ae)(hy:IL Y owners)(hc:IL C aj):(AV.agg (aN ep X Y C)).bP=aa (aN ep X Y C):=by obtain⟨k,s,xs,rfl,-⟩:=hx.form;obtain⟨ky,sy,rfl,-⟩:=hy;obtain⟨kc,sc,rfl,-⟩:=hc;rfl
def apR(h:aq)(ep:Int)(X Y C:AV)(ae:List (List Int))(owners aj:List Int)(hx:RL X ae)(hy:IL Y owners)(hc:IL C aj)(hl:aj.length<=1000000):
 ∃r h',W5.call 111 [.agg (aN ep X Y C)] h=aa (r,h')/\h'=h.push (aN ep X Y C)/\r=.ret (.v (.bool (lH ae ep aj))):=by
 have bx:=uu (ep:=ep) hx hy hc;have b0:=aZ h (aN ep X Y C);have l0:aH ao Gt (h.push (aN ep X Y C)) 3 (.ptr (.box h.boxes.length) 0)=aa (.v (.int .i64 ep)):=ct eD b0 rfl;have l1:aH ao Gt (h.push (aN ep X Y C)) 22 (.ptr (.box h.boxes.length) 1)=aa X:=ct NU b0 rfl;have l3:aH ao Gt (h.push (aN ep X Y C)) 23 (.ptr (.box h.boxes.length) 3)=aa C:=ct kU b0 rfl;have ln:=hx.dM;have lc:=hc.dM;have cc:=Kc (pr:=Fy) rfl rfl 161 [] (λn=> !bI n) (h.push (aN ep X Y C)) C aj hc hl (λn _=>avj n _);rw[Ux] at cc;have kv:al (lH ae ep aj=(decide (0<=ep)&&decide (ep<=64)&&decide (aj.length=bJ ae)&&aj.all bI)):=⟨rfl⟩;generalize lH ae ep aj=res at *
 obtain⟨k,s,xs,rfl,hs,dN,eH⟩:=hx;have kk:=al.mk (aw hs eH);have u23:=dQ;have u22:=ji;have z23:=il;have cS:(xs.map λa=>[a]).length=ae.length:=by rw[bu];exact dN
 clear hs eH hc hy b0;have kcols:al (ae.length=0->bJ ae=1):=⟨λq=>by unfold bJ;rw[aG q]⟩;have kcols2:al (∀r0,ae[0]?=aa r0->bJ ae=r0.length):=⟨λr0 q=>by unfold bJ;rw[aI (by have:=(aS.1 q).1;omega),ez,q];rfl⟩;refine db rfl Tryz.func111 rfl ?_;have fin:∀n:Nat,bJ ae=n->al (res=(decide (0<=ep)&&decide (ep<=64)&&decide (aj.length=n)&&aj.all bI)):=λn q=>⟨by rw[kv.out,q]⟩;have fy:=al.mk fin;clear fin;rcases Gy ae.length with h0|h0
 ·have hq:¬((0:Int)<(ae.length:Int)):=by omega
  have kf:=fy.out _ (kcols.out h0);clear h0;clear kcols kcols2 fy kv;by_cases h1:0<=ep;rotate_left 1
  ·have d1:decide (0<=ep)=az:=cE h1;have kr:al (res=az):=⟨by rw[kf.out,d1];rfl⟩;clear h1 cc;refine bA @Bi @bg @vO (aw @gL (aw @gV (aw @Ax @bh))) ?_;exact⟨_,_,rfl,rfl,by rw[kr.out]⟩
  have d1:decide (0<=ep)=ah:=bQ h1;by_cases h2:ep<=64;rotate_left 1
  ·have d2:decide (ep<=64)=az:=cE h2;have kr:al (res=az):=⟨by rw[kf.out,d2];simp⟩;clear h1 h2 cc;refine bA @Bi @bg @vO (aw @gL (aw @gV (aw @Ax @bh))) ?_;exact⟨_,_,rfl,rfl,by rw[kr.out]⟩
  have d2:decide (ep<=64)=ah:=bQ h2;by_cases h3:aj.length=1;rotate_left 1
  ·have d3:decide ((aj.length:Int)=1)=az:=cE ag;have kr:al (res=az):=⟨by rw[kf.out,cE h3];simp⟩;clear h1 h2 h3 cc;refine bA @Bi @bg @vO (aw @gL (aw @gV (aw @Ax @bh))) ?_;exact⟨_,_,rfl,rfl,by rw[kr.out]⟩
  have d3:decide ((aj.length:Int)=1)=ah:=bQ ag;have kr:al (res=aj.all bI):=⟨by rw[kf.out,d1,d2,bQ h3];rfl⟩;have HN:(!!aj.all bI)=aj.all bI:=by simp
  clear h1 h2 h3;refine bA @Bi @bg @vO (aw @gL (aw @gV (aw @Ax @bh))) ?_;exact⟨_,_,rfl,rfl,by rw[kr.out]⟩
 ·have hq:((0:Int)<(ae.length:Int)):=by omega
  have bD:s=1:=kk.out.1 (by intro q;rw[q] at h0;simp at h0);subst bD;obtain⟨a0,gu⟩:∃a,xs[0]?=aa a:=⟨_,aR ag⟩;obtain⟨r0,gv⟩:∃r,ae[0]?=aa r:=⟨_,aR ag⟩;have ld0:=lV (H:=h.push (aN ep (.list k 1 (xs.map λa=>[a])) Y C)) (s:=1) gu;obtain⟨ka0,sa0,rfl,qp⟩:=kk.out.2 0 a0 r0 gu gv;have kf:=fy.out _ (kcols2.out r0 gv);have cP:=dD r0;have z0:(0:Int).toNat=0:=rfl;generalize r0.length=N at *
  clear gu gv qp h0;clear kcols kcols2 fy kv;by_cases h1:0<=ep;rotate_left 1
  ·have d1:decide (0<=ep)=az:=cE h1;have kr:al (res=az):=⟨by rw[kf.out,d1];rfl⟩;clear h1 cc;refine bA @Bi @bg @vO (aw @gL (aw @gV (aw @Ax @bh))) ?_;exact⟨_,_,rfl,rfl,by rw[kr.out]⟩
  have d1:decide (0<=ep)=ah:=bQ h1;by_cases h2:ep<=64;rotate_left 1
  ·have d2:decide (ep<=64)=az:=cE h2;have kr:al (res=az):=⟨by rw[kf.out,d2];simp⟩;clear h1 h2 cc;refine bA @Bi @bg @vO (aw @gL (aw @gV (aw @Ax @bh))) ?_;exact⟨_,_,rfl,rfl,by rw[kr.out]⟩
  have d2:decide (ep<=64)=ah:=bQ h2;by_cases h3:aj.length=N;rotate_left 1
  ·have d3:decide ((aj.length:Int)=(N:Int))=az:=cE ag;have kr:al (res=az):=⟨by rw[kf.out,cE h3];simp⟩;clear h1 h2 h3 cc;refine bA @Bi @bg @vO (aw @gL (aw @gV (aw @Ax @bh))) ?_;exact⟨_,_,rfl,rfl,by rw[kr.out]⟩
  have d3:decide ((aj.length:Int)=(N:Int))=ah:=bQ ag;have kr:al (res=aj.all bI):=⟨by rw[kf.out,d1,d2,bQ h3];rfl⟩;have HN:(!!aj.all bI)=aj.all bI:=by simp
  clear h1 h2 h3;refine bA @Bi @bg @vO (aw @gL (aw @gV (aw @Ax @bh))) ?_;exact⟨_,_,rfl,rfl,by rw[kr.out]⟩
structure vJ(H:aq)(c:Nat)(ep:Int)(X Y C T L Wt:AV)(pt ch:Int)(aj:List Int)(text:List UInt8)(l:List Pr):Prop where
 eJ:∃(b:Nat) (ae:List (List AV)),H.boxes[c]?=aa (ir ep X Y C T L Wt (.arr b 0 ae.length ae.length) pt ch)/\H.boxes[b]?=aa ae.flatten/\ou (l.map Pr.val) ae
 On:IL C aj
 pos:0<aj.length
 c0:0<=ai aj 0/\ai aj 0<=4611686018427387903
 Dt:∃kt st,T=.list kt st (a8 text)/\(text≠[]->st=1)
 tl:text.length<=65536
 ll:l.length<=64
def vJ.mono{H H'}{c}{ep}{X Y C T L Wt}{pt ch}{aj}{text}{l}(w:vJ H c ep X Y C T L Wt pt ch aj text l)(x:Ext H H'):vJ H' c ep X Y C T L Wt pt ch aj text l:=by obtain⟨b,ae,h1,h2,h3⟩:=w.eJ;exact⟨⟨b,ae,x.box _ _ h1,x.box _ _ h2,h3⟩,w.On,w.pos,w.c0,w.Dt,w.tl,w.ll⟩
def ab5(l:List Pr):ia (l.map Pr.val)<=1:=by
 induction l with
 |nil=>simp[ia]|cons p l ih=>
  rw[eC,ia];have:gE p.val=1:=by simp[Pr.val,gE,ia]
  omega
def avh(p:Pr):(dK p.val).length<=100:=by
 have h0:=oE 9 (0+1+1+1+1);have h1:=oE 9 (lY p.aB);have h2:=oE 9 (lY p.no);have h3:=oE 9 (lY p.d);have h4:=oE 9 (lY p.e);simp only[Pr.val,dK,iX,iP,dw,kQ] at *
 omega
def ab7:∀l:List Pr,(iX (l.map Pr.val)).length<=l.length * 100
 | []=>by simp[iX]
 |p::l=>by have h1:=avh p;have h2:=ab7 l;rw[eC,iX,dw,iP,gJ];omega
def UP(c0)(text)(l)(k):(dK (.list [.int c0,.text text,uz l,.int k])).length<=100+text.length+l.length * 100:=by
 have h0:=oE 9 (0+1+1+1+1);have h1:=oE 9 (lY c0);have h2:=oE 9 text.length;have h3:=oE 9 (lY k);have h4:=oE 9 (l.map Pr.val).length;have h5:=ab7 l;simp only[uz,dK,iX,iP,dw,kQ] at *
 omega
def Oe(t u v w)(x y z q):gf ao 180 4 [(0,.iface t x),(1,.iface u y),(2,.iface v z),(3,.iface w q)]=aa (.list .tight 1 [[.iface t x],[.iface u y],[.iface v z],[.iface w q]]):=av
def Oa(H:aq)(c:Nat)(ep:Int)(X Y C T L Wt:AV)(pt ch:Int)(aj:List Int)(text:List UInt8)(l:List Pr)(w:vJ H c ep X Y C T L Wt pt ch aj text l)(q:Pr)(hk:0<=q.aB/\q.aB<=4611686018427387903):
 ∃r H',W5.call 49 [.ptr (.box c) 0,.agg (bU q)] H=aa (r,H')/\H'=H.push (bU q)/\r=.ret (im ((eU (ai aj 0) text l q.aB:Nat):Int)):=by
 have w2:=w.mono (.push H (bU q));obtain⟨b,ae,h1,h2,h3⟩:=w2.eJ;obtain⟨kc,sc,rfl,uZ⟩:=w.On;obtain⟨kt,st,rfl,bT⟩:=w.Dt;have jb:=w.pos;have Qr:sc=1:=uZ (by intro e;rw[e] at jb;simp at jb);subst Qr;have dG:ae.length<=64:=by have:=h3.1;rw[bu] at this;have:=w.ll;omega
 have bl:=UP (ai aj 0) text l q.aB;have hd:=ab5 l;have hh:=WZ (H.push (bU q)) Dl .tight 1 [.iface 3 (.v (.int .i64 (ai aj 0))),.iface 28 (.list kt st (a8 text)),.iface 96 (.agg (im 3::im 0::sv []::[.arr b 0 ae.length ae.length])),.iface 3 (.v (.int .i64 q.aB))] [.int (ai aj 0),.text text,uz l,.int q.aB]
  (.cons (.int _ w.c0) (.cons (.text kt st text bT (by have:=w.tl;omega)) (.cons (.list h2 h3 ag) (.cons (.int _ hk) .nil)))) (λ_=>rfl) bE aV (by simp[uz,gE,ia];omega) (by have:=w.tl;have:=w.ll;omega)
 have xz:ua Dl (.list [.int (ai aj 0),.text text,uz l,.int q.aB])=eU (ai aj 0) text l q.aB:=rfl;rw[xz] at hh;rw[show Dl=[98,105,110,100] from rfl] at hh;generalize eU (ai aj 0) text l q.aB=bn at *
 have b0:=aZ H (bU q);have l0:aH ao Gt (H.push (bU q)) 3 (.ptr (.box H.boxes.length) 0)=aa (.v (.int .i64 q.aB)):=ct eD b0 rfl;have l1:aH ao Gt (H.push (bU q)) 23 (.ptr (.box c) 3)=aa (.list kc 1 (ints aj)):=ct kU h1 rfl;have l2:aH ao Gt (H.push (bU q)) 28 (.ptr (.box c) 4)=aa (.list kt st (a8 text)):=ct JR h1 rfl;have l3:aH ao Gt (H.push (bU q)) 96 (.ptr (.box c) 7)=aa (.agg [im 3,im 0,sv [],.arr b 0 ae.length ae.length]):=by rw[iL NX qy h1 (jR rfl)];rfl
 have l4:=eE (H:=H.push (bU q)) (l:=aj) (i:=0) (s:=1) jb;have bc:(AV.agg (bU q)).bP=aa (bU q):=rfl;have cS:=dD aj;have u23:=dQ;have z3:=fP;have KX:(0:Int)<(aj.length:Int):=by omega
 have z0:(0:Int).toNat=0:=rfl;simp only[eC,vE] at hh;clear w w2 h1 h2 h3 uZ bT xz bl hd b0 jb;generalize ai aj 0=c0 at *
 unfold im at *
 refine db rfl Tryz.func49 rfl ?_;refine bK @aa3 @bg ?_;refine ev mc av ?_;refine bA @aa3 @rI @gV (aw @iR (aw @bh (aw @Ij (aw @QE (aw @ald @Oe))))) ?_;exact⟨_,_,rfl,rfl,rfl⟩
def afF(c0)(text)(l)(k):okF ((eU c0 text l k:Nat):Int):=Xc _ _
def ZD(H:aq)(c:Nat)(ep:Int)(X Y C T L Wt:AV)(pt ch:Int)(aj:List Int)(text:List UInt8)(l:List Pr)(w:vJ H c ep X Y C T L Wt pt ch aj text l)(q:Pr)(hk:0<=q.aB/\q.aB<=4611686018427387903)(hd:bI q.d=ah)(he:bI q.e=ah):
 ∃r H',W5.call 70 [.ptr (.box c) 0,.agg (bU q)] H=aa (r,H')/\Ext H H'/\r=.ret (im ((kj (ai aj 0) text l q:Nat):Int)):=by
 obtain⟨_,H2,c1,rfl,rfl⟩:=Oa (H.push (bU q)) c ep X Y C T L Wt pt ch aj text l (w.mono (.push _ _)) q hk;have hb:=afF (ai aj 0) text l q.aB;have c2:=Iz q.e ((eU (ai aj 0) text l q.aB:Nat):Int);have c3:=Es q.d (eR q.e ((eU (ai aj 0) text l q.aB:Nat):Int));have hN:jk q.d (eR q.e ((eU (ai aj 0) text l q.aB:Nat):Int))=((kj (ai aj 0) text l q:Nat):Int):=by rw[AB hd (uR he _),sY he];unfold kj;rw[dV];unfold eU;rw[LB]
 rw[hN] at c3;generalize kj (ai aj 0) text l q=nn at *
 generalize ((eU (ai aj 0) text l q.aB:Nat):Int)=bn at *
 generalize eR q.e bn=pw at *
 have b0:=aZ H (bU q);have b1:((H.push (bU q)).push (bU q)).boxes[H.boxes.length]?=aa (bU q):=aY b0;have l0:aH ao Gt (H.push (bU q)) 3 (.ptr (.box H.boxes.length) 2)=aa (.v (.int .i64 q.d)):=ct eD b0 rfl;have l1:aH ao Gt (H.push (bU q)) 3 (.ptr (.box H.boxes.length) 3)=aa (.v (.int .i64 q.e)):=ct eD b0 rfl;have l2:=C5 b0;have l0b:aH ao Gt ((H.push (bU q)).push (bU q)) 3 (.ptr (.box H.boxes.length) 2)=aa (.v (.int .i64 q.d)):=ct eD b1 rfl;have l1b:aH ao Gt ((H.push (bU q)).push (bU q)) 3 (.ptr (.box H.boxes.length) 3)=aa (.v (.int .i64 q.e)):=ct eD b1 rfl;have bc:(AV.agg (bU q)).bP=aa (bU q):=rfl;clear w hb hN b0 b1;unfold im at *
 refine db rfl Tryz.func70 rfl ?_;refine bK @Mh @bg ?_;refine ng [(1,6),(3,6)] mc av (λp hp=>?_) ?_
 ·simp only[iu,vH,or_false] at hp;rcases hp with rfl|rfl
  ·refine wL (x:=.ptr (.box H.boxes.length) 2) (v:=.v (.int .i64 q.d)) av rfl rfl rfl av (by simp[fc,lX]) ?_ ?_<;>(simp only[hU,fR];exact rN @Mh @iR @and_self)
  ·refine wL (x:=.ptr (.box H.boxes.length) 3) (v:=.v (.int .i64 q.e)) av rfl rfl rfl av (by simp[fc,lX]) ?_ ?_<;>(simp only[hU,fR];exact rN @Mh @iR @and_self)
 refine bK @Mh @iR ?_;exact⟨_,_,rfl,(Ext.push _ _).trans (Ext.push _ _),rfl⟩
end Go.Proofs.YtnfciiiohoafaaaGreatDoor
end
section
set_option linter.constructorNameAsVariable false
namespace Go.Proofs.YtnfciiiohoafaaaGreatDoor
open Go.AE Go.NT
def oG:Tryz.f48.results.toList=[.tmp 6,.tmp 7]:=av
def zY(H:aq)(c base:Nat)(cur:AV)(vs:List Vl):Prop:=(vs=[]/\cur=.list .nil 0 [])∨(vs≠[]/\∃(b:Nat) (ae:List (List AV)),cur=.arr b 0 ae.length ae.length/\H.boxes[b]?=aa ae.flatten/\ou vs ae/\b≠c/\base<=b)
def zY.dM{H}{c base}{cur}{vs}(q:zY H c base cur vs):dM ao 94 cur=aa (.v (.int .i64 (vs.length:Nat))):=by
 have u94:=qg;unfold Go.AE.dM;rw[u94];rcases q with⟨rfl,rfl⟩|⟨-,b,ae,rfl,-,h3,-⟩
 ·rfl
 ·simp only[h3.1]
def zY.ek{H}{c base}{cur}{vs}(q:zY H c base cur vs):cur.ek=ah:=by rcases q with⟨rfl,rfl⟩|⟨-,b,ae,rfl,-⟩<;>rfl
def tJ:List AV:=aL 0 0 [] .nil 0 []
def ou.four{vs}{ae}(h:ou vs ae):∀r∈ae,r.length=4:=λr hr=>by obtain⟨i,hi⟩:=uJ hr;have cS:=(aS.1 hi).1;exact(h.2 i _ r (aR (by rw[<-h.1];exact cS)) hi).len
def ou.snoc{vs}{ae}(h:ou vs ae){v}{r}(hv:da v r):ou (vs++[v]) (ae++[r]):=by
 refine⟨by simp[h.1],λi w x hw hx=>?_⟩;rcases dW i ae.length with aA|eg
 ·rw[sH aA] at hx;rw[sH (by rw[<-h.1];exact aA)] at hw;exact h.2 i w x hw hx
 ·have:=(aS.1 hx).1;rw[dw] at this;have he:i=ae.length:=by simp at this;omega
  subst he;rw[Gk] at hx;rw[h.1,Gk] at hw;injection hx with hx;injection hw with hw;subst hx;subst hw;exact hv
def zY.more{h0 H}{c base}{cur}{vs}(q:zY H c base cur vs)(hx:Ext h0 H)(yX:h0.boxes.length<=base)(hc:c<H.boxes.length)(jJ:base<=H.boxes.length)(hl:vs.length<1000000){v}{r}(hv:da v r):
 ∃H2,sC ao H #[94,94] cur (.list .tight 4 [tJ])=aa (.arr H.boxes.length 0 (vs.length+1) (vs.length+1),H2)/\H2.boxes.length=H.boxes.length+1/\H2.tn=H.tn/\H2.dead=H.dead/\Ext h0 H2/\
  dH ao 94 (.arr H.boxes.length 0 (vs.length+1) (vs.length+1)) (.v (.int .i64 (vs.length:Nat)))=aa (.ptr (.box H.boxes.length) (vs.length * 4))/\
  (∀(a:Nat) (cs:List AV),H.boxes[a]?=aa cs->(a<base∨a=c)->H2.boxes[a]?=aa cs)/\
  ∃cs,b7 ao H2 96 (.ptr (.box H.boxes.length) (vs.length * 4)) (.agg r)=aa (H2.put H.boxes.length cs)/\
  ∀H3,H3.boxes[H.boxes.length]?=aa cs->zY H3 c base (.arr H.boxes.length 0 (vs.length+1) (vs.length+1)) (vs++[v]):=by
 obtain⟨i,q1,q2,q3,q4⟩:=YL;have uT:=qG (ag:vs.length+1<=1000000) q3;have u94:=qg;have tx:=hv.len;have XE:dH ao 94 (.arr H.boxes.length 0 (vs.length+1) (vs.length+1)) (.v (.int .i64 (vs.length:Nat)))=aa (.ptr (.box H.boxes.length) (vs.length * 4)):=by unfold dH;simp only[u94,qy];rw[aG ⟨ag,by omega⟩];simp
 rcases q with⟨rfl,rfl⟩|⟨bG,b,ae,rfl,h1,h2,h3,h4⟩
 ·have:=MI (h:=H) (k:=.nil) (sz:=0) (es:=[]) (new:=[tJ]) (x:=.list .tight 4 [tJ]) qg qg q1 ag (by rw[q2];exact q4) bE (by simp;omega) bE (.inr rfl) (.inl rfl) (by rw[q2];rfl);refine⟨_,this,cH _ _,rfl,rfl,hx.trans (.push _ _),XE,λa cs ha _=>aY ha,r,?_,λH3 h3=>.inr ⟨bE,H.boxes.length,[r],rfl,by rw[h3];simp,ou.snoc (vs:=[]) (ae:=[]) ⟨rfl,λi v r q=>by simp at q⟩ hv,by omega,jJ⟩⟩;have hg:(H.push ([]++[tJ]).flatten).boxes[H.boxes.length]?=aa tJ:=aZ _ _;exact(fA (off:=0) (cs:=tJ) (xs:=r) hv.cells qy hg tx (aJ 4)).trans (by rw[wK (by rw[tx];rfl)])
 ·have hf:=nN h2.four;have gY:=h2.1;have jb:0<ae.length:=by rw[gY];exact List.length_pos_iff.2 bG
  rw[<-gY] at uT;have:=SZ (h:=H) (b:=b) (len:=ae.length) (cs:=ae.flatten) (new:=[tJ]) (x:=.list .tight 4 [tJ]) qg qg q1 ag (by rw[q2];exact q4) bE (by simp;omega) (by simp;omega) h1 jb (by rw[q2,hf]) (by rw[q2];rfl);have aA:=(aS.1 h1).1;rw[show ae.length+[tJ].length=vs.length+1 by simp[gY]] at this;refine⟨_,this,by rw[cH,mj],rfl,rfl,(hx.fK ag _).trans (.push _ _),XE,λa cs ha HS=>aY ((cX ?_).trans ha),(ae++[r]).flatten,?_,λH3 h5=>.inr ⟨bE,H.boxes.length,ae++[r],by simp[gY],h5,h2.snoc hv,by omega,jJ⟩⟩
  ·rcases HS with z|z
   ·omega
   ·rintro rfl;exact h3 z
  ·have hg:((H.put b []).push (ae.flatten++[tJ].flatten)).boxes[H.boxes.length]?=aa (ae.flatten++[tJ].flatten):=nt (by rw[mj]);refine(fA (off:=vs.length * 4) (xs:=r) hv.cells qy hg tx ?_).trans ?_
   ·rw[dw,hf,gY];exact aJ _
   ·have mh:eX (ae.flatten++[tJ].flatten) (vs.length * 4) r=(ae++[r]).flatten:=(by unfold eX;rw[tx,<-gY,<-hf,JK rfl,qF (by rw[dw];exact aJ _),jr];simp);rw[mh]
def amv:∃h',W4.call 112 [.list .nil 0 []] ⟨[],[],0,[]⟩=aa (.ret (.agg (aL 3 0 [] .nil 0 [])),h'):=by obtain⟨r,h',c,-,t,sz,ae,rfl,-,-,hn⟩:=QY ⟨[],[],0,[]⟩ vk .nil 0 [] [] .nil (λq=>absurd rfl q) bE (λa ha=>by cases ha);obtain⟨rfl,rfl,rfl⟩:=hn rfl;rw[vE] at c;exact⟨h',c⟩
def amg:∀h,W5.call 112 [.list .nil 0 []] h=aa (.ret (.agg (aL 3 0 [] .nil 0 [])),h):=by obtain⟨h',c⟩:=amv;exact gT (L:=L5) (b9:=[.list .nil 0 []]) aV (by rw[bN,bN,aC,bO,fa];intro n q;cases q) aV c (by rfl) aV
end Go.Proofs.YtnfciiiohoafaaaGreatDoor
end
section
namespace Go.AE
section
variable {P:Program} {G:Nat->Option (List AV)} {prims:FuncId->Option (List AV->aq->Option (AV × aq))} {Q:Xt->Env->aq->Prop} {e:Env} {h:aq} {L:List FuncId} {R:Rec}
def anI{ops:Array Oper}{i n bi bn x1 x2:Nat}{o1 o2:Oper}{t1 t2:TypeId}{a1 a2 v1 v2:Operand}(hn:ops.size - 1=n)(XT:ops[i]?=aa o1)(Ye:o1.op=.store t1 a1 v1)(ho2:ops[n]?=aa o2)(Yf:o2.op=.store t2 a2 v2)
 (h1:cO P G R ops (ops.toList.take i) e h (λq ei _=>q=.normal/\ei.eval a1=.ptr (.box bi) x1))
 (h2:cO P G R ops (ops.toList.take n) e h (λq en _=>q=.normal/\en.eval a2=.ptr (.box bn) x2)) (bG:bi≠bn):tF P G R ops e h i=ah:=by
 subst hn;have hi:i<ops.size:=(Array.getElem?_eq_some_iff.1 XT).1;obtain⟨q1,ei,Px,e1,rfl,e2⟩:=h1;obtain⟨q2,en,iE,f1,rfl,f2⟩:=h2;rw[<-tD (Nat.le_of_lt hi)] at e1;rw[<-tD ag] at f1;unfold tF;have p1:sd ops i ei=aa bi:=by unfold sd;rw[XT];simp only[Ye,e2]
 have p2:sd ops (ops.size - 1) en=aa bn:=by unfold sd;rw[ho2];simp only[Yf,f2]
 simp only[e1,f1,p1,p2];cases hq:jQ bi bn with|false=>rfl|true=>exact absurd (jW hq) bG
def aso{id:Nat}{ops:Array Oper}(i:Nat)(hL:qE prims L)(hi:Nat.blt i ops.size=ah)(bq:Fu ops i=ah)(hd:El (gP ops i (ops.size - 1)) (Oj P (gP ops i (ops.size - 1)) L) []=ah)
 (pO:tF P G (whole P G prims) ops e h i=ah) (hr:cO P G (whole P G prims) ops ops.toList e h (yL Q)):bH (whole P G prims) (.region id ops ah) e h Q:=by
 have hi:i<ops.size:=by simpa [Nat.blt_eq] using hi
 have gj:=hr;obtain⟨o,en,hn,h1,h2⟩:=gj;cases o with
 |normal=>
  have eM:di P G (whole P G prims) (gP ops i (ops.size - 1)) (bM (gP ops i (ops.size - 1)).size) e h=aa (.normal,en,hn):=by rw[sW,Dc,tD (aJ _),<-Array.length_toList,fC];exact h1
  exact run_draw_stores (stores_of hi bq pO (OD hd (λk hk=>Vd hL eM (List.mem_filter.1 hk).2) (λp hp=>nomatch hp))) hr
 |_=>exact h2.elim
def aq7{Post:Bool->aq->Prop}{H:aq}{l:Nat}{rec:iI}{args:List AV}(hr:H.loops[l]?=aa rec)(hs:rec.params.size=args.length)(bT:rec.state=.ready)(hp:rec.pending=au)
 (ha:bH (whole P G prims) rec.assign (nH l rec args) H (λo e1 h1=>o=.normal/\h1=H/\bH (whole P G prims) rec.body e1 (H.busy l rec) (λo _ h2=>h2.loops[l]?=aa {rec with state:=.busy}/\
  ((o=.normal/\Post ah (h2.eW l rec))∨(o=.ret/\Post az (h2.eW l {rec with state:=.done,pending:=aa .ret})))))):
 ∃b H',(whole P G prims).round l args H=aa (.ret (.v (.bool b)),H')/\Post b H':=by
 obtain⟨o,e1,h1,q1,rfl,rfl,o2,e2,h2,q2,q3,q4⟩:=ha;have A0:{rec with state:=LoopState.ready,pending:=au}=rec:=by cases rec;cases bT;cases hp;rfl
 rcases q4 with⟨rfl,q4⟩|⟨rfl,q4⟩
 ·refine⟨ah,_,LM hr hs ⟨_,e1,h1,q1,rfl,rec,hr,bT,.normal,e2,h2,q2,{rec with state:=.busy},q3,rfl,rfl⟩,?_⟩;show Post ah (h2.eW l {rec with state:=LoopState.ready,pending:=au});rw[A0];exact q4
 ·exact⟨az,_,LM hr hs ⟨_,e1,h1,q1,rfl,rec,hr,bT,.ret,e2,h2,q2,{rec with state:=.busy},q3,rfl,rfl⟩,q4⟩
end
end Go.AE
end
section
namespace Go.Proofs.YtnfciiiohoafaaaGreatDoor
open Go.AE Go.NT
def aff(ep)(k1 k2 k3 k4 k5)(s1 s2 s3 s4 s5)(e1 e2 e3 e4 e5):
 mz ao 98 [(0,.agg (aN ep (.list k1 s1 e1) (.list k2 s2 e2) (.list k3 s3 e3))),(1,.list k4 s4 e4),(2,.list k5 s5 e5),(4,.agg (aL 3 0 [] .nil 0 []))]=aa (.agg (ir ep (.list k1 s1 e1) (.list k2 s2 e2) (.list k3 s3 e3) (.list k4 s4 e4) (.list k5 s5 e5) (.list .nil 0 []) (.list .nil 0 []) 0 0)):=av
def BL(x:AV)(b:List UInt8):Prop:=∃k s,x=.list k s (a8 b)/\(b≠[]->s=1)
def au5(b):(a8 b).length=b.length:=bu _
def BL.dM{x}{b}(h:BL x b):dM ao 28 x=aa (.v (.int .i64 (b.length:Nat))):=by obtain⟨k,s,rfl,-⟩:=h;have u28:=jz;unfold Go.AE.dM;rw[u28];simp only[au5]
def PL.ix{x}{l}(h:PL x l){i}(hi:i<l.length):dH ao 29 x (.v (.int .i64 (i:Nat)))=aa (.elem 4 (fb l) i 0):=by obtain⟨k,s,rfl,hs⟩:=h;have bD:s=4:=hs (by intro q;rw[q] at hi;simp at hi);subst bD;have:=bh (k:=k) (kk:=.i64) (es:=fb l) (a:=((i:Nat):Int)) yC uD ag (by rw[xT];omega);rw[this,dV]
def IL.ix{x}{l}(h:IL x l){i}(hi:i<l.length):dH ao 23 x (.v (.int .i64 (i:Nat)))=aa (.elem 1 (ints l) i 0):=by obtain⟨k,s,rfl,hs⟩:=h;have bD:s=1:=hs (by intro q;rw[q] at hi;simp at hi);subst bD;have:=bh (k:=k) (kk:=.i64) (es:=ints l) (a:=((i:Nat):Int)) dQ fP ag (by rw[dD];omega);rw[this,dV]
structure BI(h H:aq)(ep:Int)(X Y C T L:AV)(kb c:Nat)(cur:AV)(vs:List Vl)(t:Tok):Prop where
 ext:Ext h H
 ok:cG H=ah
 can:dm h.tn H t
 key:H.boxes[kb]?=aa (aN ep X Y C)
 work:H.boxes[c]?=aa (ir ep X Y C T L (.list .nil 0 []) cur 0 0)
 la:zY H c (c+1) cur vs
 lo:h.boxes.length<=kb
 lt:kb<c
def BI.push{h H}{ep}{X Y C T L}{kb c}{cur}{vs}{t}(b:BI h H ep X Y C T L kb c cur vs t)(cs):BI h (H.push cs) ep X Y C T L kb c cur vs t:=by
 refine⟨b.ext.trans (.push _ _),b.ok,by rw[An];exact b.can,aY b.key,aY b.work,?_,b.lo,b.lt⟩;rcases b.la with q|⟨q,x,ae,q1,q2,q3⟩
 ·exact .inl q
 ·exact .inr ⟨q,x,ae,q1,aY q2,q3⟩
def BI.app{h H}{ep}{X Y C T L}{kb c}{cur}{vs}{t}(b:BI h H ep X Y C T L kb c cur vs t):BI h (H.app t) ep X Y C T L kb c cur vs (.free H.tn):=by
 have gr:=Grown.one b.can b.ok b.ext.tn;refine⟨gr.ext b.ext (aJ _),gr.ok,gr.can,by rw[ec];exact b.key,by rw[ec];exact b.work,?_,b.lo,b.lt⟩;rcases b.la with q|⟨q,x,ae,q1,q2,q3⟩
 ·exact .inl q
 ·exact .inr ⟨q,x,ae,q1,by rw[ec];exact q2,q3⟩
def BI.Om{h H}{ep}{X Y C T L}{kb c}{cur}{vs}{t}(b:BI h H ep X Y C T L kb c cur vs t):c<H.boxes.length:=(aS.1 b.work).1
def auo{H}{c}{ep}{X Y C T L Wt cur x}{pt ch}(hb:H.boxes[c]?=aa (ir ep X Y C T L Wt cur pt ch))(hx:x.bP=aa [x]):b7 ao H 94 (.ptr (.box c) 10) x=aa (H.put c (ir ep X Y C T L Wt x pt ch)):=
 fA (off:=10) (cs:=ir ep X Y C T L Wt cur pt ch) (xs:=[x]) hx av hb rfl (jR rfl)
def aun{H}{c}{ep}{X Y C T L Wt cur x}{pt ch}(hb:H.boxes[c]?=aa (ir ep X Y C T L Wt cur pt ch))(hx:x.bP=aa [x]):b7 ao H 23 (.ptr (.box c) 6) x=aa (H.put c (ir ep X Y C T L x cur pt ch)):=
 fA (off:=6) (cs:=ir ep X Y C T L Wt cur pt ch) (xs:=[x]) hx il hb rfl (jR rfl)
def auq{H}{c}{ep}{X Y C T L Wt cur}{pt ch n}(hb:H.boxes[c]?=aa (ir ep X Y C T L Wt cur pt ch)):b7 ao H 3 (.ptr (.box c) 11) (.v (.int .i64 n))=aa (H.put c (ir ep X Y C T L Wt cur n ch)):=
 fA (off:=11) (cs:=ir ep X Y C T L Wt cur pt ch) (xs:=[.v (.int .i64 n)]) rfl fP hb rfl (jR rfl)
def aup{H}{c}{ep}{X Y C T L Wt cur}{pt ch n}(hb:H.boxes[c]?=aa (ir ep X Y C T L Wt cur pt ch)):b7 ao H 3 (.ptr (.box c) 12) (.v (.int .i64 n))=aa (H.put c (ir ep X Y C T L Wt cur pt n)):=
 fA (off:=12) (cs:=ir ep X Y C T L Wt cur pt ch) (xs:=[.v (.int .i64 n)]) rfl fP hb rfl (jR rfl)
def UW:gf ao 94 1 [(0,.agg [wh (Value.int .i64 0),wh (Value.int .i64 0),wh (Value.string (bs [])),wh (Value.slice au 0 0)])]=aa (.list .tight 4 [tJ]):=av
def BI.next{h H}{ep}{X Y C T L}{kb c}{cur}{vs}{t}(b:BI h H ep X Y C T L kb c cur vs t)(hl:vs.length<1000000){v}{r}(hv:da v r):
 ∃H2 cs,sC ao H #[94,94] cur (.list .tight 4 [tJ])=aa (.arr H.boxes.length 0 (vs.length+1) (vs.length+1),H2)/\
  dH ao 94 (.arr H.boxes.length 0 (vs.length+1) (vs.length+1)) (.v (.int .i64 (vs.length:Nat)))=aa (.ptr (.box H.boxes.length) (vs.length * 4))/\
  b7 ao H2 96 (.ptr (.box H.boxes.length) (vs.length * 4)) (.agg r)=aa (H2.put H.boxes.length cs)/\
  b7 ao (H2.put H.boxes.length cs) 94 (.ptr (.box c) 10) (.arr H.boxes.length 0 (vs.length+1) (vs.length+1))=aa ((H2.put H.boxes.length cs).put c (ir ep X Y C T L (.list .nil 0 []) (.arr H.boxes.length 0 (vs.length+1) (vs.length+1)) 0 0))/\
  BI h ((H2.put H.boxes.length cs).put c (ir ep X Y C T L (.list .nil 0 []) (.arr H.boxes.length 0 (vs.length+1) (vs.length+1)) 0 0)) ep X Y C T L kb c (.arr H.boxes.length 0 (vs.length+1) (vs.length+1)) (vs++[v]) t:=by
 have hc:=b.Om;have qR:=b.lo;have aA:=b.lt;obtain⟨H2,q1,q2,q3,q4,q5,q6,q7,cs,q8,q9⟩:=b.la.more b.ext ag hc ag hl hv;have hw:(H2.put H.boxes.length cs).boxes[c]?=aa (ir ep X Y C T L (.list .nil 0 []) cur 0 0):=by rw[cX ag];exact q7 c _ b.work (.inr rfl)
 have hk:((H2.put H.boxes.length cs).put c (ir ep X Y C T L (.list .nil 0 []) (.arr H.boxes.length 0 (vs.length+1) (vs.length+1)) 0 0)).boxes[kb]?=aa (aN ep X Y C):=by rw[cX ag,cX ag];exact q7 kb _ b.key (.inl ag)
 refine⟨H2,cs,q1,q6,q8,auo hw rfl,(q5.fK (by have:=b.ext.len;omega) _).fK ag _,?_,?_,hk,eu (by rw[mj];omega),?_,qR,aA⟩
 ·have:=b.ok;unfold cG at *
  show H2.dead.all (λn=>decide (n<H2.tn))=ah;rw[q3,q4];exact this
 ·have:=b.can;rw[BU,BU];rcases this with z|z|⟨m,z,z2,z3⟩
  ·exact .inl z
  ·exact .inr (.inl z)
  ·refine .inr (.inr ⟨m,z,z2,?_⟩);unfold alive at *
   rw[q3,q4];exact z3
 ·refine q9 _ ?_;rw[cX ag];exact eu (by rw[q2];omega)
def anN(p:Pr)(h:∀x∈[p.aB,p.no,p.d,p.e],0<=x/\x<=4611686018427387903):∃r,da p.val r/\∀H,W5.call 112 [.list .tight 1 [[.iface 3 (.v (.int .i64 p.aB))],[.iface 3 (.v (.int .i64 p.no))],[.iface 3 (.v (.int .i64 p.d))],[.iface 3 (.v (.int .i64 p.e))]]] H=aa (.ret (.agg r),H):=by
 have:=amf .tight 1 [.iface 3 (.v (.int .i64 p.aB)),.iface 3 (.v (.int .i64 p.no)),.iface 3 (.v (.int .i64 p.d)),.iface 3 (.v (.int .i64 p.e))] [.int p.aB,.int p.no,.int p.d,.int p.e]
  (.cons (.int _ (h _ bE)) (.cons (.int _ (h _ bE)) (.cons (.int _ (h _ bE)) (.cons (.int _ (h _ bE)) .nil)))) (λ_=>rfl) bE
 simp only[eC,vE] at this;exact this
end Go.Proofs.YtnfciiiohoafaaaGreatDoor
end
