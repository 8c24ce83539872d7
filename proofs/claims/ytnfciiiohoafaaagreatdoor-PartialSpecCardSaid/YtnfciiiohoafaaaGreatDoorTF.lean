/-
  The engine, part 51: a function that gives a number and takes lists whose cells may lie in boxes: for the call these boxes are lists.
-/
import Derived.Test.YtnfciiiohoafaaaGreatDoorTE
import Derived.Test.YtnfciiiohoafaaaGreatDoorTD
open True renaming intro->aQ
open Go.Proofs.Tryz renaming prog->al,underlying23->dJ,func157->abf,underlying22->iq,underlying28->iO,underlying94->oH,underlying180->abo,func158->abg,underlying29->wS
open Option renaming none->aq,some->aa,map_some->eJ
open Bool renaming false->av,true->ah,and_eq_true->bC
open Nat renaming zero_le->cr,reduceEqDiff->aX,add_mul->gg,le_refl->aJ,beq->jq,ble->Lk,eq_of_beq_eq_true->jw,le_of_ble_eq_true->lW,mul_le_mul->pg,lt_or_ge->dI,succ_ne_zero->Rm,eq_zero_or_pos->EN,mul_one->nG
open List renaming getElem?_eq_getElem->aO,mem_of_getElem?->de,any_append->KZ,any_eq_true->EA,cons_append->kj,take_length->fA,range->bO,range_succ->ob,foldl_append->nY,any_cons->aak,all_cons->Ez,length_map->bu,getD_eq_getElem?_getD->dP,all_eq_true->dU,mem_range->fY,length_nil->jI,all_eq_false->KY,flatten_append->p9,mem_map->jo,length_take->eP,flatten_cons->nX,length_cons->iW,mem_cons->gO,mem_cons_self->fR,mem_cons_of_mem->fi,getElem?_eq_some_iff->aP,getElem?_take->nC,getElem?_drop->nZ,mem_of_mem_take->oa,nil_append->lV,getElem?_append_left->qM,length_append->dk,getElem?_concat_length->EC,getElem?_map->dW,take_of_length_le->gm,replicate->aY,take_append_drop->wP,mem_flatten->La,not_mem_nil->tT,take_left'->HL,drop_of_length_le->pc,append_nil->jH,getElem?_of_mem->s8,map_cons->eo,ext_getElem?->p8,getElem?_eq_none->sZ,getElem?_range->ED,map_nil->tR,getElem_mem->iD,find?_append->aau,take_succ_cons->hJ,take_zero->fB
open And renaming intro->ar
open Int renaming sub_zero->Cc,natCast_zero->rQ,toNat_natCast->dL
set_option maxHeartbeats 64000000
set_option maxRecDepth 100000
set_option linter.unusedSimpArgs false
set_option linter.unusedVariables false
set_option linter.constructorNameAsVariable false
set_option linter.defProp false
section
namespace Go.Proofs.YtnfciiiohoafaaaGreatDoor
open Go.AE Go.NT
section
variable {pr:FuncId->Option (List AV->ak->Option (AV × ak))}
def PF:Tryz.f159.results.toList=[.tmp 4]:=au
def ait(FX:pr 167=aq)(g:FuncId)(aB:List AV)(p:Int->Bool)(h:ak)(x:AV)(l:List Int)(hx:IL x l)(hl:l.length<=1000000)(hp:∀n∈l,(whole al Gt pr).call g (im n::aB) h=aa (.ret (.v (.bool (p n))),h)):
 ∃r h',(whole Tryz.prog Gt pr).call 167 [x,.func (.func g) [] aB] h=some (r,h')/\h'=h/\∃i:Int,r=.ret (im i)/\decide (0<=i)=l.any p:=by
 obtain⟨k,s,rfl,hs⟩:=hx;have kp:=aj.mk hp;have ks:=aj.mk hs;clear hp hs;have u23:=dJ;have z3:=fP;have cH:=dn l;refine df FX Tryz.func167 rfl ?_;refine br @zD ?_;refine cq (λm e H=>∃i:Nat,i<=l.length/\m=l.length - i/\(l.take i).any p=av/\e.get 0=.list k s (ints l)/\e.get 1=.func (.func g) [] aB/\e.get 7=.v (.int .i64 (l.length:Nat))/\e.get 8=.v (.int .i64 (i:Nat))/\e.defers=[]/\H=h) ?_ l.length _ _ ?_;rotate_left 1
 ·refine⟨0,cr _,rfl,by simp,?_,?_,?_,?_,?_,rfl⟩<;>exact gR
 rintro m e H ⟨i,hi,rfl,ha,g0,g1,g7,g8,hd,rfl⟩;have ka:=aj.mk ha;clear ha;by_cases aA:i<l.length
 ·have bB:s=1:=ks.out (by intro q;rw[q] at aA;simp at aA);subst bB;have ld:=e7 (H:=H) (s:=1) aA;have hv:l[i]?=aa (ai l i):=by rw[aO aA,fI aA]
  have hc:=kp.out (ai l i) (de hv);have fL:(i:Int)<(l.length:Int):=by omega
  have oS:(l.take (i+1)).any p=p (ai l i):=by rw[fH hv,KZ,ka.out];simp
  have kt:=aj.mk oS;have kh:=aj.mk hv;clear hv oS;unfold im at hc;cases fc:p (ai l i) with
  |true=>rw[fc] at hc;have lH:l.any p=ah:=EA.2 ⟨_,de kh.out,fc⟩;have kan:=aj.mk lH;clear lH fc;refine cY @zD @a8 @kj.{0} ?_;exact⟨_,_,rfl,rfl,(i:Int),rfl,by rw[kan.out];simp⟩
  |false=>rw[fc] at hc;have kt2:(l.take (i+1)).any p=av:=kt.out.trans fc;clear fc;refine cY @zD @a8 @kj.{0} ?_;exact⟨l.length - (i+1),by omega,i+1,by omega,rfl,kt2,by simp⟩
 ·have:i=l.length:=by omega
  subst this;have:=ka.out;rw[fA] at this;have kan:=aj.mk this;clear this;refine br @zD ?_;exact⟨_,_,rfl,rfl,-1,rfl,by rw[kan.out];rfl⟩
def Ih(agV:pr 167=aq)(agU:pr 126=aq)(g:FuncId)(aB:List AV)(p:Int->Bool)(h:ak)(x:AV)(l:List Int)(hx:IL x l)(hl:l.length<=1000000)(hp:∀n∈l,(whole al Gt pr).call g (im n::aB) h=aa (.ret (.v (.bool (p n))),h)):
 (whole al Gt pr).call 126 [x,.func (.func g) [] aB] h=aa (.ret (.v (.bool (l.any p))),h):=by
 obtain⟨r,h',c,rfl,i,rfl,hi⟩:=ait agV g aB p h x l hx hl hp;have CZ:decide (0<=i)=l.any p:=hi;unfold im at c;refine cC agU Tryz.func126 rfl ?_;clear hi hp;exact lG @XT
def aq8(FX:pr 159=aq)(yU:∀a b h,(whole al Gt pr).call 28 [im a,im b] h=aa (.ret (im (cP a b)),h))(g:FuncId)(aB:List AV)(f:Nat->Int)(h:ak)(x:AV)(l:List Int)(hx:IL x l)(hl:l.length<=1000000)
 (hp:∀i,i<l.length->(whole al Gt pr).call g (im (i:Nat)::im (ai l i)::aB) h=aa (.ret (im (f i)),h)):
 ∃h',(whole al Gt pr).call 159 [x,.func (.func g) [] aB] h=aa (.ret (im ((bO l.length).foldl (λx j=>cP x (f j)) 0)),h')/\h'=h:=by
 obtain⟨k,s,rfl,hs⟩:=hx;have kp:=aj.mk (ar hp hs);clear hp hs;have u23:=dJ;have z3:=fP;have cH:=dn l;unfold im;refine gP FX Tryz.func159 rfl ?_;refine br @PF ?_;refine cq (λm e H=>∃i:Nat,i<=l.length/\m=l.length - i/\e.get 1=.func (.func g) [] aB/\e.get 4=.v (.int .i64 ((bO i).foldl (λx j=>cP x (f j)) 0))/\e.get 7=.list k s (ints l)/\e.get 8=.v (.int .i64 (l.length:Nat))/\e.get 9=.v (.int .i64 (i:Nat))/\e.defers=[]/\H=h) ?_ l.length _ _ ?_;rotate_left 1
 ·refine⟨0,cr _,rfl,?_,?_,?_,?_,?_,?_,rfl⟩<;>exact gR
 rintro m e H ⟨i,hi,rfl,g1,g4,g7,g8,g9,hd,rfl⟩;by_cases aA:i<l.length
 ·have bB:s=1:=kp.out.2 (by intro q;rw[q] at aA;simp at aA);subst bB;have ld:=e7 (H:=H) (s:=1) aA;have hc:=kp.out.1 i aA;have ha:=λv=>yU v (f i) H;have fL:(i:Int)<(l.length:Int):=by omega
  have bZ:cP ((bO i).foldl (λx j=>cP x (f j)) 0) (f i)=(bO (i+1)).foldl (λx j=>cP x (f j)) 0:=by rw[ob,nY];rfl
  have kst:=aj.mk bZ;clear bZ;generalize (bO i).foldl (λx j=>cP x (f j)) 0=acc at *
  unfold im at hc ha;refine cY @PF @a8 @kj.{0} ?_;exact⟨l.length - (i+1),by omega,i+1,by omega,rfl,by trivial,by rw[kst.out],by simp⟩
 ·have:i=l.length:=by omega
  subst this;refine br @PF ?_;exact⟨_,rfl,rfl⟩
end
def X7:Tryz.f157.results.toList=[.tmp 2]:=au
def aog:Tryz.f107.results.toList=[.tmp 2]:=au
def XS:Tryz.f108.results.toList=[.tmp 2]:=au
def aoh:Tryz.f110.results.toList=[.tmp 4]:=au
def aou:Tryz.f160.results.toList=[.tmp 5]:=au
def aoy:Tryz.f168.results.toList=[.tmp 2]:=au
def JX:Tryz.f129.results.toList=[.tmp 4]:=au
def PC:Tryz.f130.results.toList=[.tmp 4]:=au
def aoR:Tryz.f57.results.toList=[.tmp 4]:=au
def aoX:Tryz.f77.results.toList=[.tmp 4]:=au
def alz(x n)(h):W4.call 57 [im x,im n] h=aa (.ret (im (fU x n)),h):=by
 have c:=ME x n;unfold im at *
 refine cC rfl Tryz.func57 rfl ?_;exact lG @aoR
def alB(x n)(h):W4.call 77 [im x,im n] h=aa (.ret (im (fU x n)),h):=by
 have c:=ME x n;unfold im at *
 refine cC rfl Tryz.func77 rfl ?_;exact lG @aoX
def akg(n):pR n= !da n:=by
 unfold pR da Qi;by_cases h0:n<0
 ·rw[bX h0,cI (ag:¬0<=n)];rfl
 ·by_cases h1:1073741789<=n
  ·rw[cI h0,bX h1,bX (ag:0<=n),cI (ag:¬n<1073741789)];rfl
  ·rw[cI h0,cI h1,bX (ag:0<=n),bX (ag:n<1073741789)];rfl
def ake(n)(h):W4.call 157 [im n] h=aa (.ret (.v (.bool (pR n))),h):=by
 unfold im pR;by_cases h0:n<0
 ·refine cC rfl abf rfl ?_;have:decide (n<0)=ah:=by simp[h0]
  exact jL @X7 @Bool.true_or
 ·refine cC rfl abf rfl ?_;have:decide (n<0)=av:=by simp[h0]
  exact jL @X7 @Bool.false_or
def RW(l:List Int):(!l.any pR)=l.all da:=by
 induction l with
 |nil=>rfl|cons a l ih=>rw[aak,Ez,<-ih,akg];simp
def WD(x)(l)(hx:IL x l)(hl:l.length<=1000000)(h):W4.call 107 [x] h=aa (.ret (.v (.bool (l.all da))),h):=by have c:=Ih (pr:=DT) rfl rfl 157 [] pR h x l hx hl (λn _=>ake n h);have hv:(!l.any pR)=l.all da:=RW l;refine cC rfl Tryz.func107 rfl ?_;clear hx;exact lG @aog
def SW(h:ak)(x y:AV)(ae:List (List Int))(owners:List Int)(hx:RL x ae)(hy:IL y owners):∃h',W4.call 108 [.agg [x,y]] h=aa (.ret (.v (.int .i64 (bU ae:Nat))),h')/\h'=h.push [x,y]:=by
 obtain⟨k,s,xs,rfl,hs,dx,dR⟩:=hx;have bx:(AV.agg [.list k s (xs.map λa=>[a]),y]).b8=aa [.list k s (xs.map λa=>[a]),y]:=by obtain⟨ky,sy,rfl,-⟩:=hy;rfl
 have l0:=rE (a9 h [.list k s (xs.map λa=>[a]),y]);have u23:=dJ;have u22:=iq;have z23:=iM;have cH:(xs.map λa=>[a]).length=ae.length:=by rw[bu];exact dx
 refine gP rfl Tryz.func108 rfl ?_;by_cases h0:ae.length=0
 ·have hq:(ae.length:Int)=0:=by omega
  have hc:bU ae=1:=by unfold bU;rw[aF h0]
  rw[hc];clear h0 dR hs dx hc;refine cY @XS @bL @dw ?_;exact⟨_,rfl,rfl⟩
 ·have hq:¬((ae.length:Int)=0):=by omega
  obtain⟨a0,fJ⟩:∃a,xs[0]?=aa a:=⟨_,aO ag⟩;obtain⟨r0,fM⟩:∃r,ae[0]?=aa r:=⟨_,aO ag⟩;have bB:s=1:=hs (by intro q;rw[q] at h0;simp at h0);subst bB;have ld0:=jY (H:=h.push [.list k 1 (xs.map λa=>[a]),y]) (s:=1) fJ;obtain⟨ka0,sa0,rfl,oR⟩:=dR 0 a0 r0 fJ fM;have hc:bU ae=r0.length:=by unfold bU;rw[aG h0,dP,fM];rfl
  rw[hc];have cO:=dn r0;have yR:(0:Int)<(ae.length:Int):=by omega
  have z0:(0:Int).toNat=0:=rfl;clear h0 dR hs dx hc fJ fM oR;refine bJ @XS @bL @dw @a8 ?_;exact⟨_,rfl,rfl⟩
def arF(h:ak)(b i:Nat)(n:Int)(y:AV)(l:List Int)(hb:h.boxes[b]?=aa [y])(hy:IL y l)(hi:i<l.length):W4.call 160 [im (i:Nat),im n,.ptr (.box b) 0] h=aa (.ret (im (b9 n (ai l i))),h):=by
 obtain⟨k,s,rfl,hs⟩:=hy;have bB:s=1:=hs (by intro q;rw[q] at hi;simp at hi);subst bB;have l1:=uA hb;have ld:=e7 (H:=h) (s:=1) hi;have u23:=dJ;have z3:=fP;have cH:=dn l;have hiI:(i:Int)<(l.length:Int):=by omega
 have c:=Ws n (ai l i);unfold im at *
 clear hs hb;refine cC rfl Tryz.func160 rfl ?_;exact jL @aou @a8
def arD(h:ak)(x y:AV)(a b:List Int)(hx:IL x a)(hy:IL y b)(hl:a.length<=1000000)(CV:a.length<=b.length):∃h',W4.call 110 [x,y] h=aa (.ret (im (pC a b)),h')/\h'=h.push [y]:=by
 obtain⟨_,c,rfl⟩:=aq8 (pr:=DT) rfl (λa b h=>RM a b h) 160 [.ptr (.box h.boxes.length) 0] (λi=>b9 (ai a i) (ai b i)) (h.push [y]) x a hx hl (λi hi=>arF (h.push [y]) h.boxes.length i (ai a i) y b (a9 _ _) hy ag);have cy:y.b8=aa [y]:=by obtain⟨k,s,rfl,-⟩:=hy;rfl
 have e:(bO a.length).foldl (λx j=>cP x (b9 (ai a j) (ai b j))) 0=pC a b:=rfl;rw[e] at c;unfold im at *
 clear hx hy e;refine gP rfl Tryz.func110 rfl ?_;refine bM @aoh @bL ?_;exact⟨_,rfl,rfl⟩
def ar3(n)(h):W4.call 168 [im n] h=aa (.ret (.v (.bool (!bE n))),h):=by
 have c:=Zu n;unfold im at *
 refine cC rfl Tryz.func168 rfl ?_;exact lG @aoy
def RV(p)(l:List Int):(l.any λn=> !p n)= !l.all p:=by
 induction l with
 |nil=>rfl|cons a l ih=>rw[aak,Ez,ih];simp
def mV:Tryz.f115.results.toList=[.tmp 2]:=au
def al7(h:ak)(x y:AV)(ae:List (List Int))(owners:List Int)(hx:RL x ae)(hy:IL y owners)(cO:ae.length<=1000000):
 ∃r h',W4.call 115 [.agg [x,y]] h=aa (r,h')/\h'=h.push [x,y]/\r=.ret (.v (.int .i64 (cR ae owners))):=by
 obtain⟨k,s,xs,rfl,hs,dx,dR⟩:=hx;obtain⟨ky,sy,rfl,jX⟩:=hy;have kk:=aj.mk (ar hs (ar dR jX));clear hs dR jX;have u23:=dJ;have u22:=iq;have z23:=iM;have z3:=fP;have cH:(xs.map λa=>[a]).length=ae.length:=by rw[bu];exact dx
 have ry:=dn owners;have b0:(h.push [.list k s (xs.map λa=>[a]),.list ky sy (ints owners)]).boxes[h.boxes.length]?=aa [.list k s (xs.map λa=>[a]),.list ky sy (ints owners)]:=a9 _ _;have l0:=rE b0;have l1:=DC b0;have bx:(AV.agg [.list k s (xs.map λa=>[a]),.list ky sy (ints owners)]).b8=aa [.list k s (xs.map λa=>[a]),.list ky sy (ints owners)]:=rfl;clear b0;have k1:aj (64<ae.length->cR ae owners=2):=⟨λq=>by unfold cR;rw[aF (by simp[q])]⟩;have k2:aj (∀(i:Nat) r,ae[i]?=aa r->64<r.length->cR ae owners=2):=⟨λi r hr q=>by unfold cR;rw[aF];rw[Bool.or_eq_true];exact .inr (EA.2 ⟨r,de hr,by simp[q]⟩)⟩;have k3:aj (ae.length<=64->(ae.any λr=>decide (64<r.length))=av->ae.length≠owners.length->cR ae owners=230):=⟨λq1 q2 q3=>by unfold cR;rw[aG (by rw[q2];simp;omega),aF q3]⟩;have k4:aj (ae.length<=64->(ae.any λr=>decide (64<r.length))=av->ae.length=owners.length->cR ae owners=if ((bO ae.length).all (r8 ae owners))=ah then (0:Int) else 230):=⟨λq1 q2 q3=>by unfold cR;rw[aG (by rw[q2];simp;omega),aG (by simpa using q3)];rfl⟩;generalize cR ae owners=res at *
 obtain⟨H,hH⟩:∃H,h.push [.list k s (xs.map λa=>[a]),.list ky sy (ints owners)]=H:=⟨_,rfl⟩;rw[hH] at l0 l1;rw[hH];refine df rfl Tryz.func115 rfl ?_;by_cases h1:64<ae.length
 ·have hq:((64:Int)<(ae.length:Int)):=by omega
  have kr:=aj.mk (k1.out h1);clear h1;refine bJ @mV @dw @eG (ar @bL @hH) ?_;exact⟨_,_,rfl,rfl,by rw[kr.out]⟩
 have hq:¬((64:Int)<(ae.length:Int)):=by omega
 have IE:ae.length<=64:=by omega
 refine bJ @mV @dw @eG (ar @bL @hH) ?_;refine bG.gen λe0 aD bI cT cJ=>?_;have f1:e0.get 1=.ptr (.box h.boxes.length) 0:=by rw[aD];exact gS
 have f3:e0.get 3=.v (.int .i64 (0:Nat)):=by rw[aD];exact gR
 have fd:e0.defers=[]:=by rw[bI];exact gS
 clear aD bI cT cJ bx hq h1 hH;refine cq (λm e H2=>∃i:Nat,i<=ae.length/\m=ae.length - i/\aj (((ae.take i).any λr=>decide (64<r.length))=av)/\e.get 1=.ptr (.box h.boxes.length) 0/\e.get 3=.v (.int .i64 (i:Nat))/\e.defers=[]/\H2=H) ?_ ae.length _ _ ?_;rotate_left 1
 ·exact⟨0,cr _,rfl,⟨bh⟩,f1,f3,fd,rfl⟩
 clear f1 f3 fd;rintro m e H ⟨i,hi,rfl,kt,g1,g3,hd,rfl⟩;by_cases aA:i<ae.length
 ·have bB:s=1:=kk.out.1 (by intro q;rw[q] at aA;simp at aA);subst bB;obtain⟨a,fD⟩:∃a,xs[i]?=aa a:=⟨_,aO ag⟩;obtain⟨r,hv⟩:∃r,ae[i]?=aa r:=⟨_,aO aA⟩;have ld:=jY (H:=H) (s:=1) fD;obtain⟨ka,sa,rfl,iZ⟩:=kk.out.2.1 i a r fD hv;have vN:=dn r;have fL:(i:Int)<(ae.length:Int):=by omega
  by_cases hb:64<r.length
  ·have hbI:((64:Int)<(r.length:Int)):=(by omega);have kr:=aj.mk (k2.out i r hv hb);clear fD hv iZ hb;refine bJ @mV @dw @eG @a8 ?_;exact⟨_,_,rfl,rfl,by rw[kr.out]⟩
  ·have hbI:¬((64:Int)<(r.length:Int)):=(by omega);have kt2:aj (((ae.take (i+1)).any λr=>decide (64<r.length))=av):=⟨by rw[fH hv,KZ,kt.out];simp;omega⟩;clear fD hv iZ hb;refine bJ @mV @dw @eG @a8 ?_;exact⟨ae.length - (i+1),by omega,i+1,by omega,rfl,kt2,by simp⟩
 have fK:i=ae.length:=by omega
 subst fK;have lH:=kt.out;rw[fA] at lH;have kany:=aj.mk lH;clear lH kt hi;by_cases h3:ae.length=owners.length;rotate_left 1
 ·have kr:=aj.mk (k3.out IE kany.out h3);have hn:¬((ae.length:Int)=(owners.length:Int)):=by omega
  clear h3;refine cY @mV @dw @eG ?_;exact⟨_,_,rfl,rfl,by rw[kr.out]⟩
 have kres:=aj.mk (k4.out IE kany.out h3);have kn:=aj.mk h3;have hn:(owners.length:Int)=(ae.length:Int):=by omega
 clear h3;refine cY @mV @dw @eG ?_;refine bG.gen λe0 aD bI cT cJ=>?_;have f1:e0.get 1=.ptr (.box h.boxes.length) 0:=by rw[aD];simp only[gW,reduceIte,aX,aR];exact g1
 have f4:e0.get 4=.v (.int .i64 (0:Nat)):=by rw[aD];exact gR
 have fd:e0.defers=[]:=by rw[bI];simp only[gW,reduceIte,aX,aR];exact hd
 clear aD bI cT cJ g1 g3 hd aA;refine cq (λm e H2=>∃i:Nat,i<=ae.length/\m=ae.length - i/\aj (∀j,j<i->r8 ae owners j=ah)/\e.get 1=.ptr (.box h.boxes.length) 0/\e.get 4=.v (.int .i64 (i:Nat))/\e.defers=[]/\H2=H) ?_ ae.length _ _ ?_;rotate_left 1
 ·exact⟨0,cr _,rfl,⟨λj hj=>absurd hj (Nat.not_lt_zero _)⟩,f1,f4,fd,rfl⟩
 clear f1 f4 fd;rintro m e H3 ⟨i,hi,rfl,kf,g1,g4,hd,rfl⟩;by_cases aA:i<ae.length;rotate_left 1
 ·have fK:i=ae.length:=by omega
  subst fK;have k0:aj (res=0):=⟨by rw[kres.out,aF];rw[dU];intro j hj;exact kf.out j (fY.1 hj)⟩;refine cY @mV @dw @eG ?_;exact⟨_,_,rfl,rfl,by rw[k0.out]⟩
 have bB:s=1:=kk.out.1 (by intro q;rw[q] at aA;simp at aA);subst bB;have lM:sy=1:=kk.out.2.2 (by intro q;have h0:=kn.out;rw[q,jI] at h0;omega);subst lM;obtain⟨a,fD⟩:∃a,xs[i]?=aa a:=⟨_,aO ag⟩;obtain⟨r,hv⟩:∃r,ae[i]?=aa r:=⟨_,aO aA⟩;obtain⟨a0,fJ⟩:∃a,xs[0]?=aa a:=⟨_,aO ag⟩;obtain⟨r0,fM⟩:∃r,ae[0]?=aa r:=⟨_,aO ag⟩;have ld:=jY (H:=H3) (s:=1) fD;have ld0:=jY (H:=H3) (s:=1) fJ;obtain⟨ka,sa,rfl,iZ⟩:=kk.out.2.1 i a r fD hv;obtain⟨ka0,sa0,rfl,oR⟩:=kk.out.2.1 0 a0 r0 fJ fM;have atn:=dn r;have sI:=dn r0;have ldo:=e7 (H:=H3) (l:=owners) (i:=i) (s:=1) (by have:=kn.out;omega);have y5:r8 ae owners i=(!r.isEmpty&&decide (r.length=r0.length)&&uK (ai owners i)&&r.all da):=by
  unfold r8 uK;have g1:ae.getD i []=r:=by rw[dP,hv];rfl
  have g2:ae.getD 0 []=r0:=by rw[dP,fM];rfl
  rw[g1,g2]
 have fV:=aj.mk y5;have kbad:aj (r8 ae owners i=av->res=230):=⟨by intro q;rw[kres.out,aG];intro z;rw[dU] at z;have:=z i (fY.2 aA);rw[q] at this;cases this⟩;have fL:(i:Int)<(ae.length:Int):=by omega
 have yR:(0:Int)<(ae.length:Int):=by omega
 have z0:(0:Int).toNat=0:=rfl;have ks:=aj.mk iZ;have Ut:r.length<=64:=by have q:=kany.out;rw[List.any_eq_false] at q;have:=q r (de hv);simpa using this
 clear y5 fD hv iZ fJ fM oR;generalize ai owners i=o at *
 by_cases e1:r.length=0
 ·have rz:decide ((r.length:Int)<1)=ah:=bX ag;have kb:aj (res=230):=⟨kbad.out (by rw[fV.out,List.length_eq_zero_iff.1 e1];rfl)⟩;clear e1;refine bJ @mV @dw @eG @a8 ?_;refine ey vm au ?_;refine bJ @mV @dw @eG @a8 ?_;exact⟨_,_,rfl,rfl,by rw[kb.out]⟩
 have rz:decide ((r.length:Int)<1)=av:=cI ag;have ia:r.isEmpty=av:=by cases r with|nil=>exact absurd rfl e1|cons _ _=>rfl
 clear e1;by_cases e2:r.length=r0.length;rotate_left 1
 ·have qs:decide ((r.length:Int)=(r0.length:Int))=av:=cI ag;have kb:aj (res=230):=⟨kbad.out (by rw[fV.out,ia,cI e2];rfl)⟩;clear e2 ia;refine bJ @mV @dw @eG @a8 ?_;refine ey vm au ?_;refine bJ @mV @dw @eG @a8 ?_;exact⟨_,_,rfl,rfl,by rw[kb.out]⟩
 have qs:decide ((r.length:Int)=(r0.length:Int))=ah:=bX ag;have ke2:=aj.mk e2;clear e2;by_cases e3:o<0
 ·have Vq:decide (o<0)=ah:=bX e3;have kb:aj (res=230):=⟨kbad.out (by rw[fV.out];unfold uK;rw[cI (ag:¬0<=o)];simp)⟩;clear e3 ia;refine bJ @mV @dw @eG @a8 ?_;refine ey vm au ?_;refine bJ @mV @dw @eG @a8 ?_;exact⟨_,_,rfl,rfl,by rw[kb.out]⟩
 have Vq:decide (o<0)=av:=cI e3;by_cases e4:64<=o
 ·have Vr:decide (64<=o)=ah:=bX e4;have kb:aj (res=230):=⟨kbad.out (by rw[fV.out];unfold uK;rw[cI (ag:¬o<=63)];simp)⟩;clear e3 e4 ia;refine bJ @mV @dw @eG @a8 ?_;refine ey vm au ?_;refine bJ @mV @dw @eG @a8 ?_;exact⟨_,_,rfl,rfl,by rw[kb.out]⟩
 have Vr:decide (64<=o)=av:=cI e4;have kfin2:aj (r8 ae owners i=r.all da):=⟨by rw[fV.out,ia,bX ke2.out];unfold uK;rw[bX (ag:0<=o),bX (ag:o<=63)];rfl⟩;clear e3 e4 ia;refine bJ @mV @dw @eG @a8 ?_;refine ey vm au ?_;refine bJ @mV @dw @eG @a8 ?_;refine bG.gen λe0 aD bI cT cJ=>?_;have f1:e0.get 1=.ptr (.box h.boxes.length) 0:=by rw[aD];simp only[gW,reduceIte,aX,aR];exact g1
 have f4:e0.get 4=.v (.int .i64 (i:Nat)):=by rw[aD];simp only[gW,reduceIte,aX,aR];exact g4
 have f5:e0.get 5=.v (.int .i64 (0:Nat)):=by rw[aD];exact gR
 have fd:e0.defers=[]:=by rw[bI];simp only[gW,reduceIte,aX,aR];exact hd
 clear aD bI cT cJ g1 g4 hd;refine cq (λm e H2=>∃j:Nat,j<=r.length/\m=r.length - j/\aj ((r.take j).all da=ah)/\e.get 1=.ptr (.box h.boxes.length) 0/\e.get 4=.v (.int .i64 (i:Nat))/\e.get 5=.v (.int .i64 (j:Nat))/\e.defers=[]/\H2=H3) ?_ r.length _ _ ?_;rotate_left 1
 ·exact⟨0,cr _,rfl,⟨bh⟩,f1,f4,f5,fd,rfl⟩
 clear f1 f4 f5 fd rz qs Vq Vr ldo ld0;rintro m e H4 ⟨j,hj,rfl,ka4,g1,g4,g5,hd,rfl⟩;by_cases qn:j<r.length
 ·have pO:sa=1:=ks.out (by intro q;rw[q] at qn;simp at qn);subst pO;have ldx:=e7 (H:=H4) (s:=1) qn;have mT:r[j]?=aa (ai r j):=by rw[aO qn,fI qn]
  have as9:(j:Int)<(r.length:Int):=by omega
  have oS:(r.take (j+1)).all da=da (ai r j):=by rw[fH mT,List.all_append,ka4.out];simp
  have kt5:=aj.mk (ar oS (de mT));have Vs:da (ai r j)=(decide (0<=ai r j)&&decide (ai r j<1073741789)):=rfl;have kqq:=aj.mk Vs;clear mT oS Vs;generalize ai r j=n at *
  by_cases d1:n<0
  ·have eL:decide (n<0)=ah:=bX d1;have kb:aj (res=230):=⟨kbad.out (by rw[kfin2.out,KY];exact⟨n,kt5.out.2,by rw[kqq.out,cI (ag:¬0<=n)];simp⟩)⟩;clear d1;refine bJ @mV @dw @eG @a8 ?_;exact⟨_,_,rfl,rfl,by rw[kb.out]⟩
  have eL:decide (n<0)=av:=cI d1;by_cases d2:1073741789<=n
  ·have gu:decide (1073741789<=n)=ah:=bX d2;have kb:aj (res=230):=⟨kbad.out (by rw[kfin2.out,KY];exact⟨n,kt5.out.2,by rw[kqq.out,cI (ag:¬n<1073741789)];simp⟩)⟩;clear d1 d2;refine bJ @mV @dw @eG @a8 ?_;exact⟨_,_,rfl,rfl,by rw[kb.out]⟩
  have gu:decide (1073741789<=n)=av:=cI d2;have kt2:aj ((r.take (j+1)).all da=ah):=⟨by rw[kt5.out.1,kqq.out,bX (ag:0<=n),bX (ag:n<1073741789)];rfl⟩;clear d1 d2;refine bJ @mV @dw @eG @a8 ?_;exact⟨r.length - (j+1),by omega,j+1,by omega,rfl,kt2,by simp⟩
 ·have nO:j=r.length:=by omega
  subst nO;have ec:=ka4.out;rw[fA] at ec;have kf2:aj (∀j,j<i+1->r8 ae owners j=ah):=⟨λj hj=>by
   rcases Nat.lt_succ_iff_lt_or_eq.1 hj with q|q
   ·exact kf.out j q
   ·rw[q,kfin2.out];exact ec⟩
  clear ec;refine bJ @mV @dw @eG @a8 ?_;exact⟨ae.length - (i+1),by omega,i+1,by omega,rfl,kf2,by simp⟩
end Go.Proofs.YtnfciiiohoafaaaGreatDoor
end
section
namespace Go.AE
open Go.RowKit (Below)
def we(z:Nat)(cs:List AV)(off len:Nat):List (List AV):=(bO len).map λi=>(cs.drop (off+i * z)).take z
def JT(z)(cs)(off):∀len,(we z cs off len).flatten=(cs.drop off).take (len * z)
 |0=>by simp[we]
 |n+1=>by
  have ih:=JT z cs off n;unfold we at *
  rw[ob,List.map_append,p9,ih,gg,Nat.one_mul,List.take_add,List.drop_drop];simp
def an8(z)(cs)(off len):(we z cs off len).length=len:=by unfold we;simp
def an9{z}{cs}{off len}(h:off+len * z<=cs.length):∀r∈we z cs off len,r.length=z:=by intro r hr;unfold we at hr;obtain⟨i,hi,rfl⟩:=jo.1 hr;have hi:=fY.1 hi;have:(i+1) * z<=len * z:=Nat.mul_le_mul_right _ hi;rw[gg] at this;rw[eP,List.length_drop];omega
mutual
def jK(z:Nat)(h:ak):AV->AV
 | .list k sz es=>.list (bR k) sz (qj z h es)
 | .arr b off len aB=>match h.boxes[b]? with
  |some cs=>if off+len * z<=cs.length/\0<z then .list .held z (eH (we z cs off len)) else .arr b off len aB
  |none=>.arr b off len aB
 | .tuple cs=>.tuple (lF z h cs)
 | .agg cs=>.agg (lF z h cs)
 | .iface t x=>.iface t (jK z h x)
 |x=>x
def lF(z:Nat)(h:ak):List AV->List AV
 | []=>[]
 |x::r=>jK z h x::lF z h r
def qj(z:Nat)(h:ak):List (List AV)->List (List AV)
 | []=>[]
 |r::rs=>lF z h r::qj z h rs
end
section
variable {z:Nat} {h:ak}
def TK:∀a b:List AV,lF z h (a++b)=lF z h a++lF z h b
 | [],b=>rfl
 |x::a,b=>by rw[kj,lF,TK a b,lF,kj]
def IB:∀es:List (List AV),(qj z h es).flatten=lF z h es.flatten
 | []=>rfl
 |r::es=>by rw[qj,nX,nX,TK,IB es]
def TM:∀a:List AV,(lF z h a).length=a.length
 | []=>rfl
 |x::a=>by rw[lF,iW,TM a,iW]
def TN:∀a:List (List AV),(qj z h a).length=a.length
 | []=>rfl
 |x::a=>by rw[qj,iW,TN a,iW]
def TO{sz:Nat}:∀{es:List (List AV)},(∀r∈es,r.length=sz)->∀r∈qj z h es,r.length=sz
 | [],_,r,hr=>by cases hr
 |a::es,hh,r,hr=>by
  rw[qj] at hr;rcases gO.1 hr with rfl|hr
  ·rw[TM];exact hh a fR
  ·exact TO (λr hr=>hh r (fi _ hr)) r hr
def agd(x:AV):(jK z h x).dN=x.dN:=by
 cases x with
 |arr b off len aB=>
  rw[jK];split
  ·split<;>rfl
  ·rfl
 |_=>rfl
def TL:∀a:List AV,(lF z h a).all AV.dN=a.all AV.dN
 | []=>rfl
 |x::a=>by rw[lF,Ez,agd,TL a,Ez]
end
section
variable {P:Program} {G:Nat->Option (List AV)} {ok:FuncId->Nat->Code->Bool} {w0 w w':World} {K:aS} {h:ak} {z:Nat}
def aS.still(K:aS)(w:World):aS:={K with base:=w.heap.size,β:=[],γ:=[],tn:=0,md:=[],ic:=λg j=>w.cell? ⟨g,j,aq⟩}
def He(s:bN K G ok w0 h w):∀g j c,K.ic g j=aa c->(K.still w).ic g j=aa c:=s.ic
mutual
def aT.mN(s:bN K G ok w0 h w):∀{x:AV} {c:Value},aT K x c->aL 0 0 0 (jK z h x)=ah->aT (K.still w) (jK z h x) c
 |_,_,.bad c,_=>.bad c
 |_,_,.v x hx,_=>.v x hx
 |_,_,.nil sz,_=>.nil sz
 |_,_,.jb sz a,_=>.jb sz a
 |_,_,.list k sz es g off m aB cells hn hr hv hc ht ha,hf=>by
  simp only[jK,aL,bC] at hf;have mT:=aM.mN s hv (by rw[<-IB,r9];exact hf.2);rw[<-IB] at mT;have sF:m=(qj z h es).length:=by rw[TN];exact hn
  have pD:(qj z h es).flatten.all AV.dN=ah:=by rw[IB,TL];exact ha
  have iS:=TO (z:=z) (h:=h) hr;have AS:=λj c hj=>s.ic _ _ _ (hc j c hj);cases k with|nil=>exact ht.2.elim|tight=>exact .list .tight sz _ g off m aB cells sF iS mT AS ⟨ht.1,ht.2⟩ pD|free i=>exact .list .held sz _ g off m aB cells sF iS mT AS ⟨ht.1,aQ⟩ pD|held=>exact .list .held sz _ g off m aB cells sF iS mT AS ⟨ht.1,aQ⟩ pD
 |_,_,.arr b g off len aB fa hY hb hl oo ho hr,hf=>by
  simp only[jK] at hf ⊢;cases bW:h.boxes[b]? with
  |none=>rw[bW] at hf;simp[aL] at hf|some cs=>
   rw[bW] at hf;simp only at hf ⊢;split at hf
   ·rename_i eg;rw[aF eg];obtain⟨eg,hz⟩:=eg;obtain⟨q1,q2,q3,cells,e,q4,q5⟩:=s.box b g cs hb bW;have ahN:=q5.le;by_cases h0:aB=0
    ·have:len=0:=(by omega);subst this;exact .list .held z [] g fa 0 hY [] rfl (λ_ h=>by cases h) .nil (λ_ _ h=>by simp at h) ⟨cr _,aQ⟩ rfl
    ·have zh:fa=off:=by rcases ho with p|p<;>omega
     subst zh;have hv:aM K ((cs.drop fa).take (len * z)) (((cells.toList.take cs.length).drop fa).take (len * z)):=(q5.1.drop fa).take (len * z);have mT:=aM.l9 (K2:=K.still w) (He s) (aM.hold hv) (by simp only[aL,bC] at hf;have:=hf.2;rw[<-r9,Dg,JT] at this;exact this);rw[<-JT,<-Dg] at mT;refine .list .held z _ g fa len hY (((cells.toList.take cs.length).drop fa).take (len * z)) (by rw[FT,an8]) (I7 (an9 eg)) mT (λj c hj=>?_) ⟨ag,aQ⟩ ?_
     ·have ou:j<len * z:=(by have:=(aP.1 hj).1;rw[eP] at this;omega);rw[nC,aF ou,nZ,nC,aF ag] at hj;show w.cell? ⟨g,fa+j,aq⟩=aa c;rw[qW q4];simpa using hj
     ·rw[Dg,NH,JT];rw[dU] at q3 ⊢;exactλx hx=>q3 x (List.mem_of_mem_drop (oa hx))
   ·simp[aL] at hf
 |_,_,.agg cs vs hv,hf=>.agg _ vs (aM.mN s hv (by simpa only[jK,aL] using hf))
 |_,_,.tuple cs vs hv,hf=>.tuple _ vs (aM.mN s hv (by simpa only[jK,aL] using hf))
 |_,_,.box b g off hb,hf=>by simp[jK,aL] at hf
 |_,_,.eD g off,_=>.eD g off
 |_,_,.elem sz es i off g o p cells hr hv hc hi hp ha,hf=>.elem sz es i off g o p cells hr (aM.l9 (He s) hv (by rw[r9];simpa only[jK,aL] using hf)) (λj c hj=>s.ic _ _ _ (hc j c hj)) hi hp ha
 |_,_,.func fn first aB fs cs h1 h2,hf=>by simp only[jK,aL,bC] at hf;exact .func fn first aB fs cs (aM.l9 (He s) h1 hf.1) (aM.l9 (He s) h2 hf.2)
 |_,_,.yield l g hl,hf=>by simp[jK,aL] at hf
 |_,_,.iface t x c hx,hf=>by simp only[jK,aL] at hf;exact .iface t _ c (aT.mN s hx hf)
def aM.mN(s:bN K G ok w0 h w):∀{xs:List AV} {cs:List Value},aM K xs cs->aU 0 0 0 (lF z h xs)=ah->aM (K.still w) (lF z h xs) cs
 |_,_,.nil,_=>.nil
 |_,_,.cons x c xs cs hx hs,hf=>by simp only[lF,aU,bC] at hf;exact .cons _ c _ cs (aT.mN s hx hf.1) (aM.mN s hs hf.2)
end
def bN.still(s:bN K G ok w0 h w)(hG:∀g cs,G g=aa cs->aU 0 0 0 cs=ah):bN (K.still w) G ok w ⟨[],[],0,[]⟩ w:=by
 refine⟨Below.refl _ _,aJ _,λg j c hc=>hc,λg cs hg=>?_,rfl,λb b' g hb=>by simp[aS.still] at hb,λb g cs hb=>by simp[aS.still] at hb,rfl,λb b' g hb=>by simp[aS.still] at hb,λl g r hl=>by simp[aS.still] at hl,rfl,λt ht=>?_,λt t' ht=>?_,λr hr=>by simp[aS.still] at hr,rfl⟩
 ·obtain⟨cells,q1,q2⟩:=s.eD g cs hg;exact⟨cells,aM.l9 (K1:=K) (K2:=K.still w) (He s) q1 (hG g cs hg),λj c hj=>s.ic _ _ _ (q2 j c hj)⟩
 ·simp[alive] at ht
 ·simp[alive] at ht
def IA(z:Nat)(R:Rec)(g:FuncId)(args:List AV)(h:ak):Option (AV × ak):=
 if aU 0 0 0 (lF z h args)=ah then
  match R.call g (lF z h args) ⟨[],[],0,[]⟩ with
  |some (.ret (.v y),_)=>aa (.v y,h)
  |_=>aq
 else aq
def age{prims:FuncId->Option (List AV->ak->Option (AV × ak))}(hp:Prog P)(hG:∀g cs,G g=aa cs->aU 0 0 0 cs=ah)(nQ:∀V g p,prims g=aa p->rV P G V g p){g:FuncId}(gG:∃fn,P.funcs[g]?=aa fn/\fn.body.isSome=ah)(V:World):
 rV P G V g (IA z (whole P G prims) g):=by
 refine⟨gG,λargs h x h' hx K w eU hv hs cs=>?_⟩;unfold IA at hx;split at hx
 ·rename_i hf;split at hx
  ·rename_i y h2 hc;injection hx with hx;injection hx with VM rD;subst VM;subst rD;obtain⟨-,F3⟩:=(QE hp (nQ w)).call g _ _ _ _ hc;have s0:=bN.still hs hG;obtain⟨K1,w',fr,le,s1,bZ,vH,v,pP,eg⟩:=F3 (K.still w) w eU (aM.mN hs hv hf) s0 cs;have hb:Below w.heap.size w w':=(by have:=s1.cU;rwa [le.base] at this);refine⟨.returned v,w',fr,⟨v,_,rfl,aS.Oz hs,?_,bN.sees hs hb⟩,bZ,vH,eg⟩;cases pP with|v _ q=>exact .v _ q
  ·cases hx
 ·cases hx
def zv(z:Nat)(R:Rec)(L M:List FuncId)(g:FuncId):Option (List AV->ak->Option (AV × ak)):=if L.contains g=ah then aa (Cy R g) else if M.contains g=ah then aa (IA z R g) else aq
def ajR{prims:FuncId->Option (List AV->ak->Option (AV × ak))}(hp:Prog P)(hG:∀g cs,G g=aa cs->aU 0 0 0 cs=ah)(nQ:∀V g p,prims g=aa p->rV P G V g p){L M:List FuncId}(hL:∀g∈L,∃fn,P.funcs[g]?=aa fn/\fn.body.isSome=ah)(hM:∀g∈M,∃fn,P.funcs[g]?=aa fn/\fn.body.isSome=ah):
 ∀V g p,zv z (whole P G prims) L M g=some p->rV P G V g p:=by
 intro V g p he;unfold zv at he;split at he
 ·rename_i hg;injection he with he;subst he;exact SC hp hG nQ (hL g (by simpa using hg)) V
 ·split at he
  ·rename_i hg;injection he with he;subst he;exact age hp hG nQ (hM g (by simpa using hg)) V
  ·cases he
def gJ{R:Rec}{L M:List FuncId}{g:FuncId}{args cd:List AV}{x y:AV}{h1:ak}(hg:L.contains g=ah)(ha:bV args=cd)(hf:aU 0 0 0 cd=ah)(hc:R.call g cd ⟨[],[],0,[]⟩=aa (.ret y,h1))(hy:ju h1 y=x)(hx:aL 0 0 0 x=ah):
 ∀h,(whole P G (zv z R L M)).call g args h=aa (.ret x,h):=by
 intro h;subst ha;subst hy;rw[Hr];unfold qk zv;rw[aF hg];simp only[Cy,DG,aF hf,hc,aF hx,eJ]
def agc{R:Rec}{L M:List FuncId}{g:FuncId}{args cd:List AV}{y:Value}{h h1:ak}(hg:L.contains g=av)(hm:M.contains g=ah)(ha:lF z h args=cd)(hf:aU 0 0 0 cd=ah)(hc:R.call g cd ⟨[],[],0,[]⟩=aa (.ret (.v y),h1)):
 (whole P G (zv z R L M)).call g args h=aa (.ret (.v y),h):=by
 subst ha;rw[Hr];unfold qk zv;rw[aG (by rw[hg];exact Bool.false_ne_true),aF hm];simp only[IA,aF hf,hc];rfl
end
end Go.AE
end
section
namespace Go.Proofs.YtnfciiiohoafaaaGreatDoor
open Go.AE Go.NT
def Yk:Tryz.f42.results.toList=[.tmp 2]:=au
def aeu(h:ak)(x y:AV)(ae:List (List Int))(owners:List Int)(hx:RL x ae)(hy:IL y owners):∃h',W4.call 42 [.agg [x,y]] h=aa (.ret (.v (.int .i64 (bU ae:Nat))),h')/\h'=h.push [x,y]:=by
 obtain⟨k,s,xs,rfl,hs,dx,dR⟩:=hx;have bx:(AV.agg [.list k s (xs.map λa=>[a]),y]).b8=aa [.list k s (xs.map λa=>[a]),y]:=by obtain⟨ky,sy,rfl,-⟩:=hy;rfl
 have l0:=rE (a9 h [.list k s (xs.map λa=>[a]),y]);have u23:=dJ;have u22:=iq;have z23:=iM;have cH:(xs.map λa=>[a]).length=ae.length:=by rw[bu];exact dx
 refine gP rfl Tryz.func42 rfl ?_;by_cases h0:ae.length=0
 ·have hq:(ae.length:Int)=0:=by omega
  have hc:bU ae=1:=by unfold bU;rw[aF h0]
  rw[hc];clear h0 dR hs dx hc;refine cY @Yk @bL @dw ?_;exact⟨_,rfl,rfl⟩
 ·have hq:¬((ae.length:Int)=0):=by omega
  obtain⟨a0,fJ⟩:∃a,xs[0]?=aa a:=⟨_,aO ag⟩;obtain⟨r0,fM⟩:∃r,ae[0]?=aa r:=⟨_,aO ag⟩;have bB:s=1:=hs (by intro q;rw[q] at h0;simp at h0);subst bB;have ld0:=jY (H:=h.push [.list k 1 (xs.map λa=>[a]),y]) (s:=1) fJ;obtain⟨ka0,sa0,rfl,oR⟩:=dR 0 a0 r0 fJ fM;have hc:bU ae=r0.length:=by unfold bU;rw[aG h0,dP,fM];rfl
  rw[hc];have cO:=dn r0;have yR:(0:Int)<(ae.length:Int):=by omega
  have z0:(0:Int).toNat=0:=rfl;clear h0 dR hs dx hc fJ fM oR;refine bJ @Yk @bL @dw @a8 ?_;exact⟨_,rfl,rfl⟩
def SN(x y)(ae)(owners)(hx:RL x ae)(hy:IL y owners):∀h,W4.call 97 [.agg [x,y]] h=aa (.ret (.v (.int .i64 (cR ae owners))),h):=by obtain⟨h1,h2⟩:=hx.fF;obtain⟨h3,h4⟩:=hy.hold;exact bm (L:=L4) (cd:=[.agg [aC x,aC y]]) rfl rfl (by simp[aU,aL,h2,h4]) (ad7 (aC x) (aC y) ae owners h1 h3 _) rfl rfl
def Iq{b}:gQ al 81 (.ptr (.box b) 0) 0=aa (.ptr (.box b) 0):=au
def Ir{b}:gQ al 81 (.ptr (.box b) 0) 1=aa (.ptr (.box b) 1):=au
def Oq{H}{b}{x y}(hb:H.boxes[b]?=aa [x,y]):aI al Gt H 3 (.ptr (.box b) 0)=aa x:=by rw[lP eM hb];rfl
def Ot{H}{b}{x y}(hb:H.boxes[b]?=aa [x,y]):aI al Gt H 3 (.ptr (.box b) 1)=aa y:=by rw[lP eM hb];rfl
def RL.b8{x}{ae}(h:RL x ae):x.b8=aa [x]:=by obtain⟨k,s,xs,rfl,-⟩:=h.form;rfl
def IL.b8{x}{l}(h:IL x l):x.b8=aa [x]:=by obtain⟨k,s,rfl,-⟩:=h;rfl
def vX{x y}{ae}{owners}(hx:RL x ae)(hy:IL y owners):(AV.agg [x,y]).b8=aa [x,y]:=by obtain⟨k,s,xs,rfl,-⟩:=hx.form;obtain⟨ky,sy,rfl,-⟩:=hy;rfl
def RL.ej{x}{ae}(h:RL x ae):ej al 22 x=aa (.v (.int .i64 (ae.length:Nat))):=by obtain⟨k,s,xs,rfl,hl⟩:=h.form;have u22:=iq;unfold Go.AE.ej;rw[u22];simp only[bu,hl]
def IL.ej{x}{l}(h:IL x l):ej al 23 x=aa (.v (.int .i64 (l.length:Nat))):=by obtain⟨k,s,rfl,-⟩:=h;have u23:=dJ;unfold Go.AE.ej;rw[u23];simp only[dn]
def iX(ae:List (List Int))(owners ao:List Int):Int:=if cR ae owners≠0 then cR ae owners else if decide (ao.length=bU ae)&&ao.all bE then 0 else 340
def ae6(h:ak)(x y z:AV)(ae:List (List Int))(owners ao:List Int)(hx:RL x ae)(hy:IL y owners)(hz:IL z ao)(hl:ao.length<=1000000):
 ∃r h',W4.call 129 [.agg [x,y],z] h=aa (r,h')/\Ext h h'/\r=.ret (.v (.int .i64 (iX ae owners ao))):=by
 have bx:=vX hx hy;have c1:=SN x y ae owners hx hy;obtain⟨_,c2,rfl⟩:=SW (h.push [x,y]) x y ae owners hx hy;have c3:=Ih (pr:=DT) rfl rfl 168 [] (λn=> !bE n) ((h.push [x,y]).push [x,y]) z ao hz hl (λn _=>ar3 n _);have l0:=uB (a9 h [x,y]);have ln:=hz.ej;have hp:∀q,q≠0->cR ae owners=q->iX ae owners ao=q:=λq h1 h2=>by unfold iX;rw[aF (by rw[h2];exact h1),h2]
 have cT:cR ae owners=0->iX ae owners ao=if decide (ao.length=bU ae)&&ao.all bE then 0 else 340:=λh2=>by unfold iX;rw[aG (by simp[h2])]
 have kp:=aj.mk (ar hp cT);clear hp cT hx hy hz;rw[RV] at c3;generalize iX ae owners ao=res at *
 refine df rfl Tryz.func129 rfl ?_;by_cases h0:cR ae owners=0
 ·rw[h0] at c1;have k0:=kp.out.2 h0;clear h0;by_cases h1:ao.length=bU ae
  ·have hq:decide ((ao.length:Int)=((bU ae:Nat):Int))=ah:=bX ag;rw[bX h1,Bool.true_and] at k0;clear h1;cases h2:ao.all bE with
   |true=>rw[h2] at c3 k0;have kr:=aj.mk k0;clear h2 k0;refine bM @JX @bL ?_;exact⟨_,_,rfl,(Ext.push _ _).trans (Ext.push _ _),by rw[kr.out];rfl⟩
   |false=>rw[h2] at c3 k0;have kr:=aj.mk k0;clear h2 k0;refine bM @JX @bL ?_;exact⟨_,_,rfl,(Ext.push _ _).trans (Ext.push _ _),by rw[kr.out];rfl⟩
  ·have hq:decide ((ao.length:Int)=((bU ae:Nat):Int))=av:=cI ag;rw[cI h1,Bool.false_and] at k0;have kr:=aj.mk k0;clear h1 k0;refine bM @JX @bL ?_;exact⟨_,_,rfl,(Ext.push _ _).trans (Ext.push _ _),by rw[kr.out];rfl⟩
 ·have kr:=aj.mk (kp.out.1 _ h0 rfl);clear kp c2 c3;generalize cR ae owners=q at *
  refine bM @JX @bL ?_;exact⟨_,_,rfl,Ext.push _ _,by rw[kr.out]⟩
def uP(ae:List (List Int))(p:Int × Int):Bool:=decide (0<=p.1)&&decide (p.1<ae.length)&&da p.2
def Jj(n):IL (.list .tight 1 [[.v (.int .i64 n)]]) [n]:=⟨.tight,1,rfl,λ_=>rfl⟩
def amS(h:ak)(x y:AV)(ae:List (List Int))(owners:List Int)(hx:RL x ae)(hy:IL y owners)(a v:Int):
 ∃r h',W4.call 130 [.agg [x,y],.agg [im a,im v]] h=aa (r,h')/\Ext h h'/\r=.ret (.v (.bool (uP ae (a,v)))):=by
 have bx:=vX hx hy;have b2:(AV.agg [im a,im v]).b8=aa [im a,im v]:=rfl;have l0:aI al Gt ((h.push [x,y]).push [im a,im v]) 22 (.ptr (.box h.boxes.length) 0)=aa x:=rE (bg (a9 h [x,y]));have l1:=Oq (a9 (h.push [x,y]) [im a,im v]);have l2:=Ot (a9 (h.push [x,y]) [im a,im v]);have c:=WD (.list .tight 1 [[.v (.int .i64 v)]]) [v] (Jj v) bh ((h.push [x,y]).push [im a,im v]);rw[(bh:[v].all da=da v)] at c;have bl:=po v;have ln:=hx.ej;clear hx hy;unfold uP;simp only;refine df rfl Tryz.func130 rfl ?_;unfold im at *
 by_cases h1:0<=a
 ·have d1:decide (0<=a)=ah:=bX h1;by_cases h2:a<ae.length
  ·have d2:decide (a<(ae.length:Int))=ah:=bX h2;rw[d1,d2];clear h1 h2;refine bJ @PC @bL @dw (ar @Iq @Ir) ?_;exact⟨_,_,rfl,(Ext.push _ _).trans (Ext.push _ _),rfl⟩
  ·have d2:decide (a<(ae.length:Int))=av:=cI h2;rw[d1,d2];clear h1 h2;refine bJ @PC @bL @dw (ar @Iq @Ir) ?_;exact⟨_,_,rfl,(Ext.push _ _).trans (Ext.push _ _),rfl⟩
 ·have d1:decide (0<=a)=av:=cI h1;rw[d1];clear h1;refine bJ @PC @bL @dw (ar @Iq @Ir) ?_;exact⟨_,_,rfl,(Ext.push _ _).trans (Ext.push _ _),rfl⟩
def agq(aZ b)(k)(hb:b.length<=1099511620000)(ht:aZ.length<=1099511620000):∀h,W3.call 78 [.v (.string (bs aZ)),.list k 1 (aW b)] h=aa (.ret (im (mb (fQ aZ b):Nat)),h):=
 bm (L:=L3) (cd:=[.v (.string (bs aZ)),.list (bR k) 1 (aW b)]) rfl (by rw[bV,bV,aC.eq_1,oQ];rfl) (by simp[aU,aL,eX,jz]) (agp aZ b _ hb ht _) rfl rfl
def TT(aZ b)(k)(hb:b.length<=1099511620000)(ht:aZ.length<=1099511620000):∀h,W4.call 78 [.v (.string (bs aZ)),.list k 1 (aW b)] h=aa (.ret (im (mb (fQ aZ b):Nat)),h):=
 bm (L:=L4) (cd:=[.v (.string (bs aZ)),.list (bR k) 1 (aW b)]) rfl (by rw[bV,bV,aC.eq_1,oQ];rfl) (by simp[aU,aL,eX,jz]) (agq aZ b _ hb ht _) rfl rfl
def afv{v}{r}(hv:cG v r)(hd:fT v<=16)(hl:(dt v).length<=1099511600000):∃t,∀h,W3.call 146 [.agg r] h=aa (.ret (.tuple [.list t 1 (aW (dt v)),.v (.int .i64 0)]),h):=by obtain⟨h1,h2⟩:=cG.hold v r hv;obtain⟨t,hc⟩:=afu h1 hd hl;exact⟨bR t,bm (L:=L3) (cd:=[.agg (bV r)]) rfl rfl (by simpa [aU,aL] using h2) (hc _) rfl (by simp[aL,aU,eX,jz])⟩
def Th{v}{r}(hv:cG v r)(hd:fT v<=16)(hl:(dt v).length<=1099511600000):∃t,∀h,W4.call 146 [.agg r] h=aa (.ret (.tuple [.list t 1 (aW (dt v)),.v (.int .i64 0)]),h):=by obtain⟨h1,h2⟩:=cG.hold v r hv;obtain⟨t,hc⟩:=afv h1 hd hl;exact⟨bR t,bm (L:=L4) (cd:=[.agg (bV r)]) rfl rfl (by simpa [aU,aL] using h2) (hc _) rfl (by simp[aL,aU,eX,jz])⟩
def GG:Tryz.f112.results.toList=[.cell 2 96]:=au
def aoi:Tryz.f114.results.toList=[.tmp 4]:=au
def Kf:Tryz.f79.results.toList=[.tmp 2]:=au
inductive tP:AV->Vl->Prop
 |int (n:Int) (hn:0<=n/\n<=4611686018427387903):tP (.iface 3 (.v (.int .i64 n))) (.int n)
 |text (k:Tok) (s:Nat) (b:List UInt8) (hs:b≠[]->s=1) (hb:b.length<=1099511620000):tP (.iface 28 (.list k s (aW b))) (.text b)
 |val (v:Vl) (r:List AV) (h:cG v r):tP (.iface 96 (.agg r)) v
def sW(xs:List AV)(vs:List Vl):Prop:=xs.length=vs.length/\∀(i:Nat) x v,xs[i]?=aa x->vs[i]?=aa v->tP x v
def sW.nil:sW [] []:=⟨rfl,λi x v h=>by simp at h⟩
def sW.cons{x}{v}{xs}{vs}(h:tP x v)(hs:sW xs vs):sW (x::xs) (v::vs):=by
 refine⟨by simp[hs.1],λi y w hy hw=>?_⟩;cases i with|zero=>simp at hy hw;subst hy;subst hw;exact h|succ i=>simp at hy hw;exact hs.2 i y w hy hw
def R8(x):wU al (.iface 3 x) 3 ah=aa (.tuple [x,.v (.bool ah)]):=au
def R7(x):wU al (.iface 28 x) 3 ah=aa (.tuple [.v (.int .i64 0),.v (.bool av)]):=au
def R5(x):wU al (.iface 28 x) 28 ah=aa (.tuple [x,.v (.bool ah)]):=au
def acd(x):wU al (.iface 96 x) 3 ah=aa (.tuple [.v (.int .i64 0),.v (.bool av)]):=au
def acb(x):wU al (.iface 96 x) 28 ah=aa (.tuple [.list .nil 0 [],.v (.bool av)]):=au
def ace(x):wU al (.iface 96 x) 96 ah=aa (.tuple [x,.v (.bool ah)]):=au
def Ii{k}{s}{b}(hs:b≠[]->s=1)(h):mK al h 28 9 (.list k s (aW b))=aa (.v (.string (bs b)),h):=by
 have h1:al.underlying 9=aa .string:=Tryz.underlying9;have h2:al.underlying 28=aa (.slice 5):=iO;have h3:al.underlying 5=aa (.int .u8):=Tryz.underlying5;unfold mK;simp only[h1,h2,h3,rowsOf];rw[aF (by
  by_cases hb:b=[]
  ·exact .inr (by rw[hb];rfl)
  ·exact .inl (hs hb))]
 have vC:∀l:List UInt8,bytesOf (aW l)=aa l:=by
  intro l
  induction l with
  |nil=>rfl|cons a l ih=>show(match Go.AE.byteOf (jJ a),bytesOf (aW l) with|some b,aa l=>aa (b::l)|_,_=>aq)=_;rw[ih];simp[Go.AE.byteOf,jJ]
 simp only[vC,eJ];rfl
def An{r}(hr:r.length=4)(hc:(AV.agg r).b8=aa r):fC al 94 1 [(0,.agg r)]=aa (.list .tight 4 [r]):=by have h1:al.underlying 94=aa (.slice 96):=oH;unfold fC;simp only[h1,oY,wE];rw[aF ⟨aK,rfl,by decide⟩];simp[CO,hc,hr]
def VQ:∃i,al.info? 96=aa i/\i.size=4/\i.bytes<=64/\(i.zero.map λz=>z.cells.size)=aa 4:=by
 have h:(match al.info? 96 with|some i=>jq i.size 4&&Lk i.bytes 64&&decide ((i.zero.map λz=>z.cells.size)=aa 4)|none=>av)=ah:=au;cases hi:al.info? 96 with
 |none=>rw[hi] at h;cases h
 |some i=>rw[hi] at h;simp only[bC,decide_eq_true_eq] at h;exact⟨i,rfl,jw h.1.1,lW h.1.2,h.2⟩
def Ak{H}{k}{n0 sz}{es}{r}(hl:es.length<1000000)(hs:es≠[]->sz=4)(h0:es=[]->sz=4∨k=.nil)(hk:dj n0 H k):
 gq al H #[94,94] (.list k sz es) (.list .tight 4 [r])=aa (.list (.free H.tn) 4 (es++[r]),H.app k):=by
 obtain⟨i,h1,q2,q3,h4⟩:=VQ;have hb:=pg (ag:es.length+1<=1000000) q3;have:=E6 (P:=al) (h:=H) (n0:=n0) (k:=k) (sz:=sz) (es:=es) (new:=[r]) (x:=.list .tight 4 [r]) (t1:=94) oH (.inl ⟨96,oH⟩) h1 ag (by rw[q2];exact h4) (by rw[q2];rfl) bh (by simp;omega) (by simp;omega) (by
  rw[q2];by_cases he:es=[]
  ·rcases h0 he with q|q
   ·exact .inl q
   ·exact .inr ⟨he,q⟩
  ·exact .inl (hs he)) hk
 rwa [q2] at this
structure pj(h H:ak)(c:Nat)(vs:List Vl)(t:Tok)(sz:Nat)(ae:List (List AV)):Prop where
 box:H.boxes[c]?=aa (aH 3 0 [] t sz ae)
 can:dj h.tn H t
 ok:cA H=ah
 ext:Ext h H
 out:h.boxes.length<=c
 rel:ng vs ae
 four:ae≠[]->sz=4
 nil:ae=[]->sz=4∨t=.nil
 fit:gj 0 0 0 ae=ah
def Ts:∀(ae:List (List AV)) (r:List AV),gj 0 0 0 ae=ah->aU 0 0 0 r=ah->gj 0 0 0 (ae++[r])=ah
 | [],r,_,h=>by rw[lV,gj,h];rfl
 |a::ae,r,h1,h2=>by rw[gj,bC] at h1;rw[kj,gj,h1.1,Ts ae r h1.2 h2];rfl
def pj.push{h H}{c}{vs}{t}{sz}{ae}(g:pj h H c vs t sz ae)(cs):pj h (H.push cs) c vs t sz ae:=
 ⟨bg g.box,by rw[CA];exact g.can,g.ok,g.ext.trans (.push _ _),g.out,g.rel,g.four,g.nil,g.fit⟩
def pj.put{h H}{c}{vs}{t}{sz}{ae}(g:pj h H c vs t sz ae){v}{r}(hv:cG v r)(hf:aU 0 0 0 r=ah):
 pj h ((H.app t).put c (aH 3 0 [] (.free H.tn) 4 (ae++[r]))) c (vs++[v]) (.free H.tn) 4 (ae++[r]):=by
 have hc:=(aP.1 g.box).1;have gr:=Grown.one g.can g.ok g.ext.tn;refine⟨ev (by rw[eu];exact hc),by rw[CB];exact gr.can,gr.ok,(gr.ext g.ext (aJ _)).fO g.out _,g.out,⟨by simp[g.rel.1],λi w x hw hx=>?_⟩,λ_=>rfl,λ_=>.inl rfl,Ts _ _ g.fit hf⟩;rcases dI i ae.length with aA|dM
 ·rw[qM aA] at hx;rw[qM (by rw[<-g.rel.1];exact aA)] at hw;exact g.rel.2 i w x hw hx
 ·have:=(aP.1 hx).1;rw[dk] at this;have he:i=ae.length:=by simp at this;omega
  subst he;rw[EC] at hx;rw[g.rel.1,EC] at hw;injection hx with hx;injection hw with hw;subst hx;subst hw;exact hv
def BF{H}{c}{t t2}{sz sz2}{ae rows2}(hb:H.boxes[c]?=aa (aH 3 0 [] t sz ae)):ct al H 94 (.ptr (.box c) 3) (.list t2 sz2 rows2)=aa (H.put c (aH 3 0 [] t2 sz2 rows2)):=
 gL (off:=3) (cs:=aH 3 0 [] t sz ae) (xs:=[.list t2 sz2 rows2]) rfl au hb rfl (aJ 4)
def aqw{H:ak}:ct al (H.push (aH 0 0 [] .nil 0 [])) 3 (.ptr (.box H.boxes.length) 0) (.v (.int .i64 3))=aa (H.push (aH 3 0 [] .nil 0 [])):=by rw[gL (off:=0) (cs:=aH 0 0 [] .nil 0 []) (xs:=[.v (.int .i64 3)]) rfl fP (a9 _ _) rfl aK];congr 1;exact oA _ _ _
def V3{H}{xs:List AV}{i s}{x}(h:xs[i]?=aa x):aI al Gt H 20 (.elem s (xs.map λa=>[a]) i 0)=aa x:=by rw[qw au (row:=[x]) (by rw[dW,h];rfl)];rfl
def Zm:dm al 20=aa 1:=au
def tP.adM{x}{v}(h:tP x v):(∃n,x=.iface 3 (.v (.int .i64 n))/\v=.int n/\0<=n/\n<=4611686018427387903)∨(∃k s b,x=.iface 28 (.list k s (aW b))/\v=.text b/\(b≠[]->s=1)/\b.length<=1099511620000)∨∃r,x=.iface 96 (.agg r)/\cG v r:=by
 cases h with|int n hn=>exact .inl ⟨n,rfl,rfl,hn.1,hn.2⟩|text k s b hs hb=>exact .inr (.inl ⟨k,s,b,rfl,rfl,hs,hb⟩)|val v r h=>exact .inr (.inr ⟨r,rfl,h⟩)
def OE(h:ak)(bA:cA h=ah)(k:Tok)(s:Nat)(xs:List AV)(vs:List Vl)(hr:sW xs vs)(hs:xs≠[]->s=1)(hl:xs.length<=1000)(hf:∀a∈xs,aL 0 0 0 a=ah):
 ∃r h',W4.call 112 [.list k s (xs.map λa=>[a])] h=aa (r,h')/\Ext h h'/\∃t sz ae,r=.ret (.agg (aH 3 0 [] t sz ae))/\cG (.list vs) (aH 3 0 [] t sz ae)/\gj 0 0 0 ae=ah/\(xs.length=0->t=.nil/\sz=0/\ae=[]):=by
 have kr:=aj.mk (ar hr (ar hs hf));clear hr hs hf;have z:=wE;have u180:=abo;have u94:=oH;have z20:=Zm;have cH:(xs.map λa=>[a]).length=xs.length:=bu _;have G0:pj h (h.push (aH 3 0 [] .nil 0 [])) h.boxes.length (vs.take 0) .nil 0 []:=⟨a9 _ _,.inl rfl,bA,.push _ _,aJ _,⟨rfl,λi v r q=>by simp at q⟩,λq=>absurd rfl q,λ_=>.inr rfl,rfl⟩;refine df rfl Tryz.func112 rfl ?_;refine bJ @GG @fj @aqw @jE ?_;refine bG.gen λe0 aD bI cT cJ=>?_;have f2:e0.get 2=.ptr (.box h.boxes.length) 0:=by rw[aD];exact gS
 have f9:e0.get 9=.list k s (xs.map λa=>[a]):=by rw[aD];exact gS
 have f10:e0.get 10=.v (.int .i64 (xs.length:Nat)):=by rw[aD];exact gS
 have f11:e0.get 11=.v (.int .i64 (0:Nat)):=by rw[aD];exact gR
 have fd:e0.defers=[]:=by rw[bI];exact gS
 clear aD bI cT cJ;refine cq (λm e H=>∃(i:Nat) (t:Tok) (sz:Nat) (ae:List (List AV)),i<=xs.length/\m=xs.length - i/\aj (pj h H h.boxes.length (vs.take i) t sz ae)/\aj (i=0->t=.nil/\sz=0/\ae=[])/\e.get 2=.ptr (.box h.boxes.length) 0/\e.get 9=.list k s (xs.map λa=>[a])/\e.get 10=.v (.int .i64 (xs.length:Nat))/\e.get 11=.v (.int .i64 (i:Nat))/\e.defers=[]) ?_ xs.length _ _ ?_;rotate_left 1
 ·exact⟨0,.nil,0,[],cr _,rfl,⟨G0⟩,⟨λ_=>⟨rfl,rfl,rfl⟩⟩,f2,f9,f10,f11,fd⟩
 clear f2 f9 f10 f11 fd G0;rintro m e H ⟨i,t,sz,ae,hi,rfl,kG,kN,g2,g9,g10,g11,hd⟩;by_cases aA:i<xs.length
 ·have bB:s=1:=kr.out.2.1 (by intro q;rw[q] at aA;simp at aA);subst bB;obtain⟨x,hx⟩:∃x,xs[i]?=aa x:=⟨_,aO aA⟩;obtain⟨v,hv⟩:∃v,vs[i]?=aa v:=⟨_,aO (by have:=kr.out.1.1;omega)⟩;have zo:=kr.out.1.2 i x v hx hv;have y6:=kr.out.2.2 x (de hx);have ld:=V3 (H:=H) (s:=1) hx;have kst:=aj.mk (fH hv);have cO:ae.length<1000000:=by have:=kG.out.rel.1;rw[eP] at this;omega
  have fL:(i:Int)<(xs.length:Int):=by omega
  clear hx hv;rcases zo.adM with⟨n,rfl,rfl,vK,sF⟩|⟨kb,sb,b,rfl,rfl,jM,fk⟩|⟨r,rfl,ie⟩
  ·have ie:cG (.int n) (aH 1 n [] .nil 0 []):=.int n ⟨vK,sF⟩;have kG2:=aj.mk (kG.out.put ie rfl);have l3:=nu kG.out.box;have ap:=Ak (r:=aH 1 n [] .nil 0 []) cO kG.out.four kG.out.nil kG.out.can;have bl:=An (r:=aH 1 n [] .nil 0 []) rfl rfl;have st:=BF (H:=H.app t) (t2:=.free H.tn) (sz2:=4) (rows2:=ae++[aH 1 n [] .nil 0 []]) (by rw[eu];exact kG.out.box);rw[<-kst.out] at kG2;clear ie vK sF zo y6;refine bJ @GG @fj @a8 (ar @R8 @LK) ?_;exact⟨xs.length - (i+1),by omega,i+1,_,_,_,by omega,rfl,kG2,⟨λq=>absurd q (Rm _)⟩,by simp⟩
  ·have ie:cG (.text b) (aH 2 0 b .nil 0 []):=.text b fk;have kG2:=aj.mk (kG.out.put ie rfl);have l3:=nu kG.out.box;have ap:=Ak (r:=aH 2 0 b .nil 0 []) cO kG.out.four kG.out.nil kG.out.can;have bl:=An (r:=aH 2 0 b .nil 0 []) rfl rfl;have cv:=Ii (k:=kb) jM;have st:=BF (H:=H.app t) (t2:=.free H.tn) (sz2:=4) (rows2:=ae++[aH 2 0 b .nil 0 []]) (by rw[eu];exact kG.out.box);rw[<-kst.out] at kG2;clear ie jM fk zo y6;refine bJ @GG @fj @a8 (ar @R7 (ar @R5 @LL)) ?_;exact⟨xs.length - (i+1),by omega,i+1,_,_,_,by omega,rfl,kG2,⟨λq=>absurd q (Rm _)⟩,by simp⟩
  ·have vH:aU 0 0 0 r=ah:=(by simpa [aL] using y6);have kG1:=kG.out.push r;have kG2:=aj.mk (kG1.put ie vH);have l3:=nu kG1.box;have l4:=oU ie.len (a9 H r);have ap:=Ak (r:=r) cO kG1.four kG1.nil kG1.can;have bl:=An (r:=r) ie.len ie.cells;have st0:=Qp (H:=H) ie;have st:=BF (H:=(H.push r).app t) (t2:=.free (H.push r).tn) (sz2:=4) (rows2:=ae++[r]) (by rw[eu];exact kG1.box);rw[<-kst.out] at kG2;clear ie zo kG1 y6 vH;refine bJ @GG @fj @a8 (ar @acd (ar @acb @ace)) ?_;exact⟨xs.length - (i+1),by omega,i+1,_,_,_,by omega,rfl,kG2,⟨λq=>absurd q (Rm _)⟩,by simp⟩
 ·have fK:i=xs.length:=by omega
  subst fK;have hG:=kG.out;rw[gm (by rw[kr.out.1.1];exact aJ _)] at hG;have hv:cG (.list vs) (aH 3 0 [] t sz ae):=.list vs t sz ae hG.rel.1 hG.four (by have:=hG.rel.1;have:=kr.out.1.1;omega) hG.rel.2;have ld:=oU hv.len hG.box;have st:ct al H 96 (.ptr (.box h.boxes.length) 0) (.agg (aH 3 0 [] t sz ae))=aa H:=by rw[gL jE oY hG.box rfl (aJ 4),wx rfl];rw[rL hG.box]
  have kv:=aj.mk (ar hv (ar hG.ext hG.fit));clear hv hG;refine br @GG ?_;exact⟨_,_,rfl,kv.out.2.1,_,_,_,rfl,kv.out.1,kv.out.2.2,kN.out⟩
def bd3:mw al 96 [(0,.v (.int .i64 3))]=aa (.agg (aH 3 0 [] .nil 0 [])):=au
inductive wQ:AV->Vl->Prop
 |int (n:Int) (hn:0<=n/\n<=4611686018427387903):wQ (.iface 3 (.v (.int .i64 n))) (.int n)
 |text (k:Tok) (s:Nat) (b:List UInt8) (hs:b≠[]->s=1) (hb:b.length<=1099511620000):wQ (.iface 28 (.list k s (aW b))) (.text b)
def u7(xs:List AV)(vs:List Vl):Prop:=xs.length=vs.length/\∀(i:Nat) x v,xs[i]?=aa x->vs[i]?=aa v->wQ x v
def u7.nil:u7 [] []:=⟨rfl,λi x v h=>by simp at h⟩
def u7.cons{x}{v}{xs}{vs}(h:wQ x v)(hs:u7 xs vs):u7 (x::xs) (v::vs):=by
 refine⟨by simp[hs.1],λi y w hy hw=>?_⟩;cases i with|zero=>simp at hy hw;subst hy;subst hw;exact h|succ i=>simp at hy hw;exact hs.2 i y w hy hw
def wQ.adL{x}{v}(h:wQ x v):(∃n,x=.iface 3 (.v (.int .i64 n))/\v=.int n/\0<=n/\n<=4611686018427387903)∨(∃k s b,x=.iface 28 (.list k s (aW b))/\v=.text b/\(b≠[]->s=1)/\b.length<=1099511620000):=by
 cases h with|int n hn=>exact .inl ⟨n,rfl,rfl,hn.1,hn.2⟩|text k s b hs hb=>exact .inr ⟨k,s,b,rfl,rfl,hs,hb⟩
def ajm(h:ak)(bA:cA h=ah)(k:Tok)(s:Nat)(xs:List AV)(vs:List Vl)(hr:u7 xs vs)(hs:xs≠[]->s=1)(hl:xs.length<=1000)(yY:fT (.list vs)<=16)(yZ:(dt (.list vs)).length<=1099511600000):
 ∃r h',W4.call 79 [.list k s (xs.map λa=>[a])] h=aa (r,h')/\∃t,r=.ret (.list t 1 (aW (dt (.list vs)))):=by
 have kr:=aj.mk (ar hr (ar hs (ar yY yZ)));clear hr hs yY yZ;have z:=wE;have u180:=abo;have u94:=oH;have z20:=Zm;have cH:(xs.map λa=>[a]).length=xs.length:=bu _;have G0:pj h (h.push (aH 3 0 [] .nil 0 [])) h.boxes.length (vs.take 0) .nil 0 []:=⟨a9 _ _,.inl rfl,bA,.push _ _,aJ _,⟨rfl,λi v r q=>by simp at q⟩,λq=>absurd rfl q,λ_=>.inr rfl,rfl⟩;refine df rfl Tryz.func79 rfl ?_;refine bJ @Kf @fj @bd3 (ar @Kv @jE) ?_;refine bG.gen λe0 aD bI cT cJ=>?_;have f2:e0.get 3=.ptr (.box h.boxes.length) 0:=by rw[aD];exact gS
 have f9:e0.get 11=.list k s (xs.map λa=>[a]):=by rw[aD];exact gS
 have f10:e0.get 12=.v (.int .i64 (xs.length:Nat)):=by rw[aD];exact gS
 have f11:e0.get 13=.v (.int .i64 (0:Nat)):=by rw[aD];exact gR
 have fd:e0.defers=[]:=by rw[bI];exact gS
 clear aD bI cT cJ;refine cq (λm e H=>∃(i:Nat) (t:Tok) (sz:Nat) (ae:List (List AV)),i<=xs.length/\m=xs.length - i/\aj (pj h H h.boxes.length (vs.take i) t sz ae)/\e.get 3=.ptr (.box h.boxes.length) 0/\e.get 11=.list k s (xs.map λa=>[a])/\e.get 12=.v (.int .i64 (xs.length:Nat))/\e.get 13=.v (.int .i64 (i:Nat))/\e.defers=[]) ?_ xs.length _ _ ?_;rotate_left 1
 ·exact⟨0,.nil,0,[],cr _,rfl,⟨G0⟩,f2,f9,f10,f11,fd⟩
 clear f2 f9 f10 f11 fd G0;rintro m e H ⟨i,t,sz,ae,hi,rfl,kG,g3,g11,g12,g13,hd⟩;by_cases aA:i<xs.length
 ·have bB:s=1:=kr.out.2.1 (by intro q;rw[q] at aA;simp at aA);subst bB;obtain⟨x,hx⟩:∃x,xs[i]?=aa x:=⟨_,aO aA⟩;obtain⟨v,hv⟩:∃v,vs[i]?=aa v:=⟨_,aO (by have:=kr.out.1.1;omega)⟩;have zo:=kr.out.1.2 i x v hx hv;have ld:=V3 (H:=H) (s:=1) hx;have kst:=aj.mk (fH hv);have cO:ae.length<1000000:=by have:=kG.out.rel.1;rw[eP] at this;omega
  have fL:(i:Int)<(xs.length:Int):=by omega
  clear hx hv;rcases zo.adL with⟨n,rfl,rfl,vK,sF⟩|⟨kb,sb,b,rfl,rfl,jM,fk⟩
  ·have ie:cG (.int n) (aH 1 n [] .nil 0 []):=.int n ⟨vK,sF⟩;have kG2:=aj.mk (kG.out.put ie rfl);have l3:=nu kG.out.box;have ap:=Ak (r:=aH 1 n [] .nil 0 []) cO kG.out.four kG.out.nil kG.out.can;have bl:=An (r:=aH 1 n [] .nil 0 []) rfl rfl;have st:=BF (H:=H.app t) (t2:=.free H.tn) (sz2:=4) (rows2:=ae++[aH 1 n [] .nil 0 []]) (by rw[eu];exact kG.out.box);rw[<-kst.out] at kG2;clear ie vK sF zo;refine bJ @Kf @fj @a8 (ar @R8 @LK) ?_;exact⟨xs.length - (i+1),by omega,i+1,_,_,_,by omega,rfl,kG2,by simp⟩
  ·have ie:cG (.text b) (aH 2 0 b .nil 0 []):=.text b fk;have kG2:=aj.mk (kG.out.put ie rfl);have l3:=nu kG.out.box;have ap:=Ak (r:=aH 2 0 b .nil 0 []) cO kG.out.four kG.out.nil kG.out.can;have bl:=An (r:=aH 2 0 b .nil 0 []) rfl rfl;have cv:=Ii (k:=kb) jM;have st:=BF (H:=H.app t) (t2:=.free H.tn) (sz2:=4) (rows2:=ae++[aH 2 0 b .nil 0 []]) (by rw[eu];exact kG.out.box);rw[<-kst.out] at kG2;clear ie jM fk zo;refine bJ @Kf @fj @a8 (ar @R7 (ar @R5 @LL)) ?_;exact⟨xs.length - (i+1),by omega,i+1,_,_,_,by omega,rfl,kG2,by simp⟩
 ·have fK:i=xs.length:=by omega
  subst fK;have hG:=kG.out;rw[gm (by rw[kr.out.1.1];exact aJ _)] at hG;have hv:cG (.list vs) (aH 3 0 [] t sz ae):=.list vs t sz ae hG.rel.1 hG.four (by have:=hG.rel.1;have:=kr.out.1.1;omega) hG.rel.2;have ld:=oU hv.len hG.box;obtain⟨te,ce⟩:=Th hv kr.out.2.2.1 kr.out.2.2.2;clear hv hG;refine br @Kf ?_;exact⟨_,_,rfl,_,rfl⟩
def ag7(h:ak)(bA:cA h=ah)(aZ:List UInt8)(k:Tok)(s:Nat)(xs:List AV)(vs:List Vl)(hr:sW xs vs)(hs:xs≠[]->s=1)(hl:xs.length<=1000)(hf:∀a∈xs,aL 0 0 0 a=ah)(ht:aZ.length<=1099511620000)(yY:fT (.list vs)<=16)(yZ:(dt (.list vs)).length<=1099511600000):
 ∃r h',W4.call 114 [.v (.string (bs aZ)),.list k s (xs.map λa=>[a])] h=aa (r,h')/\r=.ret (im ((si aZ (.list vs):Nat):Int)):=by
 obtain⟨_,h1,c1,-,t,sz,ae,rfl,hv,-,-⟩:=OE h bA k s xs vs hr hs hl hf;obtain⟨te,ce⟩:=Th hv yY yZ;have cg:=TT aZ (dt (.list vs)) te ag ht;have e:mb (fQ aZ (dt (.list vs)))=si aZ (.list vs):=rfl;rw[e] at cg;generalize si aZ (.list vs)=n at *
 unfold im at *
 clear hr hs hl hv hf e;refine df rfl Tryz.func114 rfl ?_;refine br @aoi ?_;exact⟨_,_,rfl,rfl⟩
def agD(n:Nat)(h0:0<n)(hn:n<=1099511627776)(H:ak):W4.call 158 [.list .nil 0 [],.v (.int .i64 (n:Nat))] H=aa (.ret (.arr H.boxes.length 0 0 n),H.push (aY n [im 0]).flatten):=by
 have u23:=dJ;have a:=ack (H:=H) h0 hn;have e1:IntKind.i64.wrap ((0:Int) - 0)=0:=by rfl
 have e2:IntKind.i64.wrap (((n:Nat):Int) - 0)=((n:Nat):Int):=by rw[Cc,gf ag ag]
 have s2:gC al 23 (.arr H.boxes.length 0 n n) aq (aa (.v (.int .i64 (0:Nat)))) aq=aa (.arr H.boxes.length 0 0 n):=YI u23 fP aK aK ag h0;have s2:gC al 23 (.arr H.boxes.length 0 n n) aq (aa (.v (.int .i64 0))) aq=aa (.arr H.boxes.length 0 0 n):=s2;have aA:(0:Int)<(n:Nat):=by omega
 refine cC rfl abg rfl ?_;exact ID @X9 @Fb @SE (ar @YJ (ar @jI.{0} (ar @rQ @Cc)))
def agC(H:ak):W4.call 158 [.list .nil 0 [],.v (.int .i64 (0:Nat))] H=aa (.ret (.list .nil 0 []),H):=by
 have u23:=dJ;refine cC rfl abg rfl ?_;have e1:IntKind.i64.wrap ((0:Int) - 0)=0:=by rfl
 have e2:IntKind.i64.wrap (((0:Nat):Int) - 0)=0:=by rfl
 exact ID @X9 @Fb @SE (ar @YJ (ar @jI.{0} (ar @rQ @Cc)))
def aeE(k:Tok)(xs:List AV)(cW:List (List (List AV)))(hl:xs.length=cW.length)(H:ak)(hs:∀(i:Nat) x rs,xs[i]?=aa x->cW[i]?=aa rs->dE 1 H x rs)(hb:cW.flatten.length<=1099511627776)(dx:xs.length<=1000):
 ∃r H',W4.call 109 [.list k 1 (xs.map λx=>[x])] H=aa (r,H')/\∃y,r=.ret y/\Ext H H'/\dE 1 H' y cW.flatten:=by
 have u23:=dJ;have u22:=iq;have aE:=abQ;have sE:=iM;have hr:∀(i:Nat) x,xs[i]?=aa x->(xs.map λx=>[x])[i]?=aa [x]:=λi x hx=>by rw[dW,hx];rfl
 have eg:∀i,(cW.take i).flatten.length<=1099511627776:=λi=>by
  refine Nat.le_trans ?_ hb
  conv=>rhs;rw[<-wP i cW,p9,dk]
  omega
 have iH:∀(i:Nat) rs,cW[i]?=aa rs->(cW.take (i+1)).flatten=(cW.take i).flatten++rs:=λi rs hi=>by rw[fH hi,p9];simp
 have kS:=aj.mk hs;have kl:=aj.mk hl;have kr:=aj.mk hr;have kst:=aj.mk iH;have kle:=aj.mk eg;have mE:(xs.map λx=>[x]).length=xs.length:=by simp
 clear hs hr iH eg hl;generalize hM:(xs.map λx=>[x])=M at *
 refine df rfl Tryz.func109 rfl ?_;refine br @zB ?_;refine cq (λm e h'=>∃i:Nat,i<=xs.length/\m=xs.length - i/\e.get 0=.list k 1 M/\e.get 9=.list k 1 M/\e.get 10=.v (.int .i64 (xs.length:Nat))/\e.get 11=.v (.int .i64 i)/\e.get 3=.v (.int .i64 ((cW.take i).flatten.length:Nat))/\e.get 2=.list .nil 0 []/\e.defers=[]/\h'=H) ?_ xs.length _ _ ?_;rotate_left 1
 ·refine⟨0,cr _,rfl,?_,?_,?_,?_,?_,?_,?_,rfl⟩<;>(first|assumption|(simp only[gW,reduceIte,aX,aR,mE]<;>rfl))
 rintro m e h' ⟨i,hi,rfl,g0,g9,g10,g11,g3,g2,hd,rfl⟩;by_cases aA:i<xs.length
 ·obtain⟨x,hx⟩:∃x,xs[i]?=aa x:=⟨_,aO aA⟩;obtain⟨rs,jf⟩:∃rs,cW[i]?=aa rs:=⟨_,aO (by have:=kl.out;omega)⟩;have s1:=kS.out i x rs hx jf;have ls:=s1.len u23;have uw:=kr.out i x hx;have A5:(i:Int)<(M.length:Int):=by omega
  have q:=kst.out i rs jf;have q1:=kle.out (i+1);rw[q,dk] at q1;have ksum:=aj.mk (show(cW.take (i+1)).flatten.length=(cW.take i).flatten.length+rs.length by rw[q,dk]);generalize (cW.take i).flatten.length=n1 at *
  have e1:IntKind.i64.wrap (((n1:Nat):Int)+((rs.length:Nat):Int))=((n1+rs.length:Nat):Int):=by rw[gf ag ag];omega
  have nn:¬(((n1+rs.length:Nat):Int)<0):=by omega
  have ld:aI al Gt h' 23 (.elem 1 M i 0)=aa x:=by rw[qw aE uw];rfl
  clear q q1 s1;refine bM @zB @a8 ?_;exact⟨xs.length - (i+1),by omega,i+1,by omega,rfl,by trivial,by trivial,by trivial,by simp,by rw[ksum.out],by trivial,by trivial,by trivial⟩
 have:i=xs.length:=by omega
 subst this;rw[show cW.take xs.length=cW by rw[kl.out];exact fA] at g3;have hn:=kle.out xs.length;rw[show cW.take xs.length=cW by rw[kl.out];exact fA] at hn;generalize hN:cW.flatten.length=n at *
 rcases EN n with h0|h0
 ·subst h0;have gn:=agC h';have ov:cW.flatten=[]:=List.eq_nil_of_length_eq_zero hN;refine br @zB ?_;refine cq (λm e H1=>∃i:Nat,i<=xs.length/\m=xs.length - i/\e.get 25=.list k 1 M/\e.get 26=.v (.int .i64 (xs.length:Nat))/\e.get 27=.v (.int .i64 i)/\e.get 6=.list .nil 0 []/\e.defers=[]/\H1=h') ?_ xs.length _ _ ?_;rotate_left 1
  ·refine⟨0,cr _,rfl,?_,?_,?_,?_,?_,rfl⟩<;>(first|assumption|(simp only[gW,reduceIte,aX,aR,mE]<;>rfl))
  clear g0 g9 g10 g11 g3 g2 hd gn;rintro m e H1 ⟨i,hi,rfl,g25,g26,g27,g6,hd,rfl⟩;by_cases aA:i<xs.length
  ·obtain⟨x,hx⟩:∃x,xs[i]?=aa x:=⟨_,aO aA⟩;obtain⟨rs,jf⟩:∃rs,cW[i]?=aa rs:=⟨_,aO (by have:=kl.out;omega)⟩;have s1:=kS.out i x rs hx jf;have N0:rs=[]:=by
    have:=de jf;cases rs with|nil=>rfl|cons a l=>exact absurd (La.2 ⟨_,this,fR⟩) (by rw[ov];exact tT)
   subst N0;have an:=abX s1;have uw:=kr.out i x hx;have A5:(i:Int)<(M.length:Int):=(by omega);have ld:aI al Gt H1 23 (.elem 1 M i 0)=aa x:=(by rw[qw aE uw];rfl);clear s1;refine bM @zB @a8 ?_;exact⟨xs.length - (i+1),by omega,i+1,by omega,rfl,by trivial,by trivial,by simp,by trivial,by trivial,by trivial⟩
  ·have:i=xs.length:=(by omega);subst this;refine br @zB ?_;exact⟨_,_,rfl,_,rfl,Ext.refl _,by(try rw[ov]);exact dE.list (λr hr=>by cases hr) (λq=>absurd rfl q)⟩
 ·have gn:=agD n h0 hn h';refine br @zB ?_;rw[Pu];have xA:∀(i:Nat) rs,cW[i]?=aa rs->∀r∈rs,r.length=1:=λi rs hi=>by obtain⟨x,hx⟩:∃x,xs[i]?=aa x:=⟨_,aO (by rw[kl.out];exact(aP.1 hi).1)⟩;exact(kS.out i x rs hx hi).1
  have iS:∀i,∀r∈(cW.take i).flatten,r.length=1:=λi r hr=>by obtain⟨rs,h1,h2⟩:=La.1 hr;obtain⟨j,hj⟩:=List.mem_iff_getElem?.1 (oa h1);exact xA j rs hj r h2
  have nM:∀i,(cW.take i).flatten.flatten.length=(cW.take i).flatten.length:=λi=>by rw[mM (iS i),nG]
  have FM:∀i,(cW.take i).flatten.length<=n:=λi=>by
   rw[<-hN]
   conv=>rhs;rw[<-wP i cW,p9,dk]
   omega
  have kfl:=aj.mk nM;have kmo:=aj.mk FM;have kr2:=aj.mk iS;clear xA nM FM iS gn;refine cq (λm e H1=>∃i:Nat,i<=xs.length/\m=xs.length - i/\e.get 25=.list k 1 M/\e.get 26=.v (.int .i64 (xs.length:Nat))/\e.get 27=.v (.int .i64 i)/\e.get 6=.arr h'.boxes.length 0 (cW.take i).flatten.length n/\e.defers=[]/\H1.boxes[h'.boxes.length]?=aa ((cW.take i).flatten.flatten++aY (n - (cW.take i).flatten.length) (im 0))/\Ext h' H1) ?_ xs.length _ _ ?_;rotate_left 1
  ·refine⟨0,cr _,rfl,?_,?_,?_,?_,?_,?_,Ext.push _ _⟩<;>(first|assumption|exact a9 _ _|(simp only[gW,reduceIte,aX,aR,mE]<;>rfl))
  clear g0 g9 g10 g11 g3 g2 hd;rintro m e H1 ⟨i,hi,rfl,g25,g26,g27,g6,hd,hB,hX⟩;by_cases aA:i<xs.length
  ·obtain⟨x,hx⟩:∃x,xs[i]?=aa x:=⟨_,aO aA⟩;obtain⟨rs,jf⟩:∃rs,cW[i]?=aa rs:=⟨_,aO (by have:=kl.out;omega)⟩;have s1:=(kS.out i x rs hx jf).ext hX;have q:=kst.out i rs jf;have m1:=kmo.out (i+1);have f0:=kfl.out i;have zl:(cW.take (i+1)).flatten.length=(cW.take i).flatten.length+rs.length:=(by rw[q,dk]);rw[zl] at m1;have N1:rs.flatten.length=rs.length:=(by rw[mM s1.1,nG]);have ap:=abt s1 hB m1 (by rw[dk,List.length_replicate,f0];omega);have kL:eE ((cW.take i).flatten.flatten++aY (n - (cW.take i).flatten.length) (im 0)) (cW.take i).flatten.length rs.flatten=(cW.take (i+1)).flatten.flatten++aY (n - (cW.take (i+1)).flatten.length) (im 0):=(by unfold eE;rw[HL f0,List.drop_append,pc (by rw[f0];omega),lV,f0,List.drop_replicate,q,p9,dk,N1];congr 2;omega);rw[kL] at ap;have uw:=kr.out i x hx;have A5:(i:Int)<(M.length:Int):=(by omega);have ld:aI al Gt H1 23 (.elem 1 M i 0)=aa x:=(by rw[qw aE uw];rfl);have kX:=aj.mk hX;have mR:=(aP.1 hB).1;have ks:=aj.mk zl;clear s1 hX hB kL q f0 zl;refine bM @zB @a8 ?_;refine⟨xs.length - (i+1),by omega,i+1,by omega,rfl,by trivial,by trivial,by simp,by rw[ks.out],by trivial,?_,kX.out.fO (aJ _) _⟩;exact ev mR
  ·have:i=xs.length:=(by omega);subst this;have ht:cW.take xs.length=cW:=(by rw[kl.out];exact fA);have f0:=kfl.out xs.length;have iS:=kr2.out xs.length;rw[ht] at hB g6 f0 iS;rw[hN] at hB g6;rw[Nat.sub_self,List.replicate_zero,jH] at hB;have kB:=aj.mk hB;have kX:=aj.mk hX;clear hB hX;refine br @zB ?_;exact⟨_,_,rfl,_,rfl,kX.out,dE.box iS hN.symm kB.out⟩
def L5:List FuncId:=[28,29,30,42,46,57,59,65,66,69,76,77,78,79,82,92,93,94,97,107,108,109,110,112,115,118,119,120,121,123,129,130,132,135,136,137,138,140,146,172,194,195,196,201]
noncomputable def DU:FuncId->Option (List AV->ak->Option (AV × ak)):=zv 4 W4 L5 [114]
noncomputable abbrev W5:=whole al Gt DU
def ku:o8 DU L5:=λg hg=>⟨DG W4 g,by unfold DU zv;rw[aF (by simpa using hg)];rfl⟩
section
variable (a b n x:Int)
def HQ:∀h,W5.call 28 [im a,im b] h=aa (.ret (im (cP a b)),h):=gJ (L:=L5) rfl rfl rfl (RM a b _) rfl rfl
def Gi:∀h,W5.call 29 [im a,im b] h=aa (.ret (im (b9 a b)),h):=gJ (L:=L5) rfl rfl rfl (Ws a b _) rfl rfl
def Hn:∀h,W5.call 46 [im x] h=aa (.ret (.v (.bool (bE x))),h):=gJ (L:=L5) rfl rfl rfl (Zu x _) rfl rfl
def CQ:∀h,W5.call 69 [im a,im b] h=aa (.ret (.tuple [im (jB a b),im (mO a b)]),h):=gJ (L:=L5) rfl rfl rfl (agw a b _) rfl rfl
def Fj:∀h,W5.call 30 [im a,im n] h=aa (.ret (.tuple [im (fU a n),im (ma a)]),h):=gJ (L:=L5) rfl rfl rfl (ME a n _) rfl rfl
def am3:∀h,W5.call 194 [im n] h=aa (.ret (.tuple [im (if fmod n=0 then 0 else dV n),im (if fmod n=0 then 90 else 0)]),h):=gJ (L:=L5) rfl rfl rfl (am2 n _) rfl rfl
def apu:∀h,W5.call 94 [im x] h=aa (.ret (.v (.bool (bE x))),h):=gJ (L:=L5) rfl rfl rfl (apt x _) rfl rfl
def amC:∀h,W5.call 140 [im a,im b] h=aa (.ret (.tuple [im (jB a b),im (mO a b)]),h):=gJ (L:=L5) rfl rfl rfl (amB a b _) rfl rfl
def amJ:∀h,W5.call 132 [im a,im n] h=aa (.ret (.tuple [im (fU a n),im (ma a)]),h):=gJ (L:=L5) rfl rfl rfl (amI a n _) rfl rfl
def amX:∀h,W5.call 120 [im n] h=aa (.ret (.agg (aH 1 n [] .nil 0 [])),h):=gJ (L:=L5) rfl rfl rfl (amW n _) rfl rfl
end
def Gv(x n):∀h,W5.call 57 [im x,im n] h=aa (.ret (im (fU x n)),h):=gJ (L:=L5) rfl rfl rfl (alz x n _) rfl rfl
def Xl(x n):∀h,W5.call 77 [im x,im n] h=aa (.ret (im (fU x n)),h):=gJ (L:=L5) rfl rfl rfl (alB x n _) rfl rfl
def xZ{x y}{ae}{owners}(hx:RL x ae)(hy:IL y owners):RL (aC x) ae/\IL (aC y) owners/\aL 0 0 0 (aC x)=ah/\aL 0 0 0 (aC y)=ah:=
 ⟨hx.fF.1,hy.hold.1,hx.fF.2,hy.hold.2⟩
def SO(x y)(ae)(owners)(hx:RL x ae)(hy:IL y owners):∀h,W5.call 97 [.agg [x,y]] h=aa (.ret (im (cR ae owners)),h):=by obtain⟨h1,h2,h3,h4⟩:=xZ hx hy;exact gJ (L:=L5) (cd:=[.agg [aC x,aC y]]) rfl rfl (by simp[aU,aL,h3,h4]) (SN (aC x) (aC y) ae owners h1 h2 _) rfl rfl
def aer(x y)(ae)(owners)(hx:RL x ae)(hy:IL y owners):∀h,W5.call 108 [.agg [x,y]] h=aa (.ret (im (bU ae:Nat)),h):=by obtain⟨h1,h2,h3,h4⟩:=xZ hx hy;obtain⟨h',c,-⟩:=SW ⟨[],[],0,[]⟩ (aC x) (aC y) ae owners h1 h2;exact gJ (L:=L5) (cd:=[.agg [aC x,aC y]]) rfl rfl (by simp[aU,aL,h3,h4]) c rfl rfl
def aev(x y)(ae)(owners)(hx:RL x ae)(hy:IL y owners):∀h,W5.call 42 [.agg [x,y]] h=aa (.ret (im (bU ae:Nat)),h):=by obtain⟨h1,h2,h3,h4⟩:=xZ hx hy;obtain⟨h',c,-⟩:=aeu ⟨[],[],0,[]⟩ (aC x) (aC y) ae owners h1 h2;exact gJ (L:=L5) (cd:=[.agg [aC x,aC y]]) rfl rfl (by simp[aU,aL,h3,h4]) c rfl rfl
def aet(x y)(ae)(owners)(hx:RL x ae)(hy:IL y owners):∀h,W5.call 136 [.agg [x,y]] h=aa (.ret (im (bU ae:Nat)),h):=by obtain⟨h1,h2,h3,h4⟩:=xZ hx hy;obtain⟨h',c,-⟩:=aes ⟨[],[],0,[]⟩ (aC x) (aC y) ae owners h1 h2;exact gJ (L:=L5) (cd:=[.agg [aC x,aC y]]) rfl rfl (by simp[aU,aL,h3,h4]) c rfl rfl
def Xw(x y)(ae)(owners)(hx:RL x ae)(hy:IL y owners)(hl:ae.length<=1000000):∀h,W5.call 115 [.agg [x,y]] h=aa (.ret (im (cR ae owners)),h):=by obtain⟨h1,h2,h3,h4⟩:=xZ hx hy;obtain⟨r,h',c,-,rfl⟩:=al7 ⟨[],[],0,[]⟩ (aC x) (aC y) ae owners h1 h2 hl;exact gJ (L:=L5) (cd:=[.agg [aC x,aC y]]) rfl rfl (by simp[aU,aL,h3,h4]) c rfl rfl
def WE(x)(l)(hx:IL x l)(hl:l.length<=1000000):∀h,W5.call 107 [x] h=aa (.ret (.v (.bool (l.all da))),h):=by obtain⟨h1,h2⟩:=hx.hold;exact gJ (L:=L5) (cd:=[aC x]) rfl rfl (by simp[aU,h2]) (WD (aC x) l h1 hl _) rfl rfl
def akX(x)(l)(hx:IL x l)(hl:l.length<=9223372036854775807):∀h,W5.call 93 [x] h=aa (.ret (.v (.bool (fW (-1) l))),h):=by obtain⟨h1,h2⟩:=hx.hold;obtain⟨r,h',c,-,rfl⟩:=akW ⟨[],[],0,[]⟩ (aC x) l h1 hl;exact gJ (L:=L5) (cd:=[aC x]) rfl rfl (by simp[aU,h2]) c rfl rfl
def Uo(x)(l)(n)(hx:IL x l)(hl:l.length<=1099511627776):∀h,W5.call 137 [x,im n] h=aa (.ret (.v (.bool (l.contains n))),h):=by obtain⟨h1,h2⟩:=hx.hold;obtain⟨r,h',c,-,rfl⟩:=agZ ⟨[],[],0,[]⟩ (aC x) l n h1 hl;exact gJ (L:=L5) (cd:=[aC x,im n]) rfl rfl (by simp[aU,h2,aL,im]) c rfl rfl
def arw(n)(h1:0<n)(h2:n<=1000000):∀h,W5.call 135 [im (n:Nat)] h=aa (.ret (.list .held 1 (ints (ft n))),h):=
 gJ (L:=L5) rfl rfl rfl (arv ⟨[],[],0,[]⟩ n h1 h2) (Bm (a9 _ _) (Qs h1)) (by simp[aL,nh,qJ])
def arE(x y)(a b)(hx:IL x a)(hy:IL y b)(hl:a.length<=1000000)(CV:a.length<=b.length):∀h,W5.call 110 [x,y] h=aa (.ret (im (pC a b)),h):=by obtain⟨h1,h2⟩:=hx.hold;obtain⟨h3,h4⟩:=hy.hold;obtain⟨h',c,-⟩:=arD ⟨[],[],0,[]⟩ (aC x) (aC y) a b h1 h3 hl CV;exact gJ (L:=L5) (cd:=[aC x,aC y]) rfl rfl (by simp[aU,h2,h4]) c rfl rfl
def S9(x y z)(ae)(owners ao)(hx:RL x ae)(hy:IL y owners)(hz:IL z ao)(hl:ao.length<=1000000):∀h,W5.call 129 [.agg [x,y],z] h=aa (.ret (im (iX ae owners ao)),h):=by obtain⟨h1,h2,h3,h4⟩:=xZ hx hy;obtain⟨h5,h6⟩:=hz.hold;obtain⟨r,h',c,-,rfl⟩:=ae6 ⟨[],[],0,[]⟩ (aC x) (aC y) (aC z) ae owners ao h1 h2 h5 hl;exact gJ (L:=L5) (cd:=[.agg [aC x,aC y],aC z]) rfl rfl (by simp[aU,aL,h3,h4,h6]) c rfl rfl
def amT(x y)(ae)(owners)(hx:RL x ae)(hy:IL y owners)(a v):∀h,W5.call 130 [.agg [x,y],.agg [im a,im v]] h=aa (.ret (.v (.bool (uP ae (a,v)))),h):=by obtain⟨h1,h2,h3,h4⟩:=xZ hx hy;obtain⟨r,h',c,-,rfl⟩:=amS ⟨[],[],0,[]⟩ (aC x) (aC y) ae owners h1 h2 a v;exact gJ (L:=L5) (cd:=[.agg [aC x,aC y],.agg [im a,im v]]) rfl rfl (by simp[aU,aL,h3,h4,im]) c rfl rfl
def TA:∀l:List Int,(ints l).flatten=l.map im
 | []=>rfl
 |a::l=>by show(xK a::ints l).flatten=im a::l.map im;rw[nX,TA l];rfl
def ail{h}{y}{l}(s:dE 1 h y (ints l)):IL (ju h y) l/\aL 0 0 0 (ju h y)=ah:=by
 rcases s.2 with⟨k,s',rfl,hs⟩|⟨b,off,aB,cs,rfl,-,hb,h1,h2⟩
 ·rw[ju];exact⟨⟨_,_,rfl,λq=>hs (by unfold ints;simpa using q)⟩,by rw[aL,eX,nh];rfl⟩
 ·rw[ju,hb];simp only;rw[nG] at h1 h2;have e:(ints l).flatten.map (λc=>[c])=ints l:=by have this:(ints l).flatten=l.map im:=TA l;rw[this,Tz]
  rw[aF h2,h1,e];exact⟨⟨_,_,rfl,λ_=>rfl⟩,by rw[aL,nh];rfl⟩
def aeG(x y)(a b)(hx:IL x a)(hy:IL y b)(hl:a.length+b.length<=1000000):∃z,IL z (a++b)/\∀h,W5.call 109 [.list .tight 1 [[x],[y]]] h=aa (.ret z,h):=by
 obtain⟨h1,h2⟩:=hx.hold;obtain⟨h3,h4⟩:=hy.hold;obtain⟨r,h',c,z,rfl,-,sz⟩:=aeE .tight [aC x,aC y] [ints a,ints b] rfl ⟨[],[],0,[]⟩ (λi w rs hw jf=>by
  have sa:∀{w:AV} {l:List Int},IL w l->dE 1 ⟨[],[],0,[]⟩ w (ints l):=λ{w l} hw=>by obtain⟨k,s,rfl,hs⟩:=hw;exact dE.list (λr hr=>by obtain⟨n,-,rfl⟩:=jo.1 hr;rfl) λq=>hs λe=>q (by rw[e];rfl)
  rcases i with _|_|i
  ·injection hw with hw;injection jf with jf;subst hw;subst jf;exact sa h1
  ·injection hw with hw;injection jf with jf;subst hw;subst jf;exact sa h3
  ·cases hw) (by simp[dn];omega) bh
 have e:[ints a,ints b].flatten=ints (a++b):=by simp[ints]
 rw[e] at sz;obtain⟨i1,i2⟩:=ail sz;exact⟨_,i1,gJ (L:=L5) (cd:=[.list .tight 1 [[aC x],[aC y]]]) rfl rfl (by simp[aU,aL,gj,h2,h4,qJ]) c rfl i2⟩
def agr(aZ b)(k)(hb:b.length<=1099511620000)(ht:aZ.length<=1099511620000):∀h,W5.call 78 [.v (.string (bs aZ)),.list k 1 (aW b)] h=aa (.ret (im (mb (fQ aZ b):Nat)),h):=
 gJ (L:=L5) (cd:=[.v (.string (bs aZ)),.list (bR k) 1 (aW b)]) rfl (by rw[bV,bV,aC.eq_1,oQ];rfl) (by simp[aU,aL,eX,jz]) (TT aZ b _ hb ht _) rfl rfl
def tP.hold{x}{v}(h:tP x v):tP (aC x) v/\aL 0 0 0 (aC x)=ah:=by
 cases h with|int n hn=>exact⟨.int n hn,rfl⟩|text k s b hs hb=>rw[aC,aC,oQ];exact⟨.text _ s b hs hb,by simp[aL,eX,jz]⟩|val v r h=>obtain⟨h1,h2⟩:=cG.hold v r h;rw[aC,aC];exact⟨.val v _ h1,by simpa [aL] using h2⟩
def sW.hold{xs}{vs}(h:sW xs vs):sW (xs.map aC) vs/\∀a∈xs.map aC,aL 0 0 0 a=ah:=by
 refine⟨⟨by simp[h.1],λi x v hx hv=>?_⟩,λa ha=>?_⟩
 ·rw[dW] at hx;cases hy:xs[i]? with
  |none=>rw[hy] at hx;cases hx
  |some y=>rw[hy] at hx;injection hx with hx;subst hx;exact(h.2 i y v hy hv).hold.1
 ·obtain⟨y,hy,rfl⟩:=jo.1 ha;obtain⟨i,hi⟩:=s8 hy;have cH:=(aP.1 hi).1;exact(h.2 i y _ hi (aO (by rw[<-h.1];exact cH))).hold.2
def cG.tok{vs}{t}{sz}{ae}(h:cG (.list vs) (aH 3 0 [] t sz ae))(t2):cG (.list vs) (aH 3 0 [] t2 sz ae):=by
 generalize hr:aH 3 0 [] t sz ae=r at h;cases h with|list l k z rs a b c d=>unfold aH at hr;injection hr with _ hr;injection hr with _ hr;injection hr with _ hr;injection hr with hr;injection hr with q1 q2 q3;subst q2;subst q3;exact .list vs t2 sz ae a b c d
def ajj(k)(s)(xs)(vs)(hr:sW xs vs)(hs:xs≠[]->s=1)(hl:xs.length<=1000):
 ∃row,cG (.list vs) row/\∀h,W5.call 112 [.list k s (xs.map λa=>[a])] h=aa (.ret (.agg row),h):=by
 obtain⟨h1,h2⟩:=hr.hold;obtain⟨r,h',c,-,t,sz,ae,rfl,hv,hf,-⟩:=OE ⟨[],[],0,[]⟩ uG (bR k) s (xs.map aC) vs h1 (λq=>hs (by simpa using q)) (by simpa using hl) h2;refine⟨aH 3 0 [] (bR t) sz ae,hv.tok _,gJ (L:=L5) (cd:=[.list (bR k) s ((xs.map aC).map λa=>[a])]) rfl (by rw[bV,bV,aC,Bd]) (by rw[aU,aU,aL,eX,w9 _ h2];rfl) c rfl ?_⟩;rw[aL,aH,aU,aU,aU,aU,aU,aL,eX,hf];rfl
def TP{z}{h}:∀xs:List AV,qj z h (xs.map λa=>[a])=(xs.map (jK z h)).map λa=>[a]
 | []=>rfl
 |x::xs=>by rw[eo,qj,TP xs];rfl
def TQ{z}{h}:∀b:List UInt8,qj z h (aW b)=aW b
 | []=>rfl
 |a::b=>by show qj z h (jJ a::aW b)=_;rw[qj,TQ b];rfl
def uX(h:ak)(x:AV)(v:Vl):Prop:=tP (jK 4 h x) v/\aL 0 0 0 (jK 4 h x)=ah
def yh(h:ak)(xs:List AV)(vs:List Vl):Prop:=xs.length=vs.length/\∀(i:Nat) x v,xs[i]?=aa x->vs[i]?=aa v->uX h x v
def yh.nil{h}:yh h [] []:=⟨rfl,λi x v q=>by simp at q⟩
def yh.cons{h}{x}{v}{xs}{vs}(q:uX h x v)(hs:yh h xs vs):yh h (x::xs) (v::vs):=by
 refine⟨by simp[hs.1],λi y w hy hw=>?_⟩;cases i with|zero=>simp at hy hw;subst hy;subst hw;exact q|succ i=>simp at hy hw;exact hs.2 i y w hy hw
def uX.int{h}(n)(hn:0<=n/\n<=4611686018427387903):uX h (.iface 3 (.v (.int .i64 n))) (.int n):=⟨.int n hn,rfl⟩
def uX.text{h}(k)(s)(b)(hs:b≠[]->s=1)(hb:b.length<=1099511620000):uX h (.iface 28 (.list k s (aW b))) (.text b):=by unfold uX;rw[jK,jK,TQ];exact⟨.text _ s b hs hb,by simp[aL,eX,jz]⟩
def an7{z}{ae:List (List AV)}(hr:∀r∈ae,r.length=z){i}{r}(h:ae[i]?=aa r):(ae.flatten.drop (i * z)).take z=r:=by
 have hl:=hr r (de h);refine p8 λj=>?_;rw[nC];split
 ·rename_i hj;rw[nZ,af4 hr i j hj,h];rfl
 ·rename_i hj;rw[sZ ag]
def aoa{z}(hz:0<z):∀ae:List (List AV),(∀r∈ae,r.length=z)->we z ae.flatten 0 ae.length=ae:=by
 intro ae hr;refine p8 λi=>?_;unfold we;rw[dW];rcases dI i ae.length with hi|hi
 ·rw[ED hi,eJ,Nat.zero_add,an7 hr (aO hi),aO hi]
 ·rw[sZ (by simpa using hi),sZ hi];rfl
def uX.list{h}{vs}{ae}{b}(hb:h.boxes[b]?=aa ae.flatten)(hr:ng vs ae)(hm:ae.length<=1000000):uX h (.iface 96 (.agg (im 3::im 0::sv []::[.arr b 0 ae.length ae.length]))) (.list vs):=by
 have hl:∀r∈ae,r.length=4:=λr fG=>by obtain⟨i,hi⟩:=s8 fG;have cH:=(aP.1 hi).1;exact(hr.2 i _ r (aO (by rw[<-hr.1];exact cH)) hi).len
 have e:jK 4 h (.iface 96 (.agg (im 3::im 0::sv []::[.arr b 0 ae.length ae.length])))=.iface 96 (.agg (aH 3 0 [] .held 4 (eH ae))):=by unfold im sv aH;simp only[jK,lF,hb];rw[aF ⟨by rw[mM hl];omega,by decide⟩,aoa aK ae hl];rfl
 have hv:cG (.list vs) (aH 3 0 [] .held 4 ae):=.list vs .held 4 ae hr.1 (λ_=>rfl) hm hr.2;obtain⟨h1,h2⟩:=cG.hold _ _ hv;have e2:bV (aH 3 0 [] .held 4 ae)=aH 3 0 [] .held 4 (eH ae):=rfl;rw[e2] at h1 h2;unfold uX;rw[e];exact⟨.val _ _ h1,by simpa [aL] using h2⟩
def yh.mN{h}{xs}{vs}(q:yh h xs vs):sW (xs.map (jK 4 h)) vs/\∀a∈xs.map (jK 4 h),aL 0 0 0 a=ah:=by
 refine⟨⟨by simp[q.1],λi x v hx hv=>?_⟩,λa ha=>?_⟩
 ·rw[dW] at hx;cases hy:xs[i]? with
  |none=>rw[hy] at hx;cases hx
  |some y=>rw[hy] at hx;injection hx with hx;subst hx;exact(q.2 i y v hy hv).1
 ·obtain⟨y,hy,rfl⟩:=jo.1 ha;obtain⟨i,hi⟩:=s8 hy;have cH:=(aP.1 hi).1;exact(q.2 i y _ hi (aO (by rw[<-q.1];exact cH))).2
def Up(h)(aZ)(k)(s)(xs)(vs)(hr:yh h xs vs)(hs:xs≠[]->s=1)(hl:xs.length<=1000)(ht:aZ.length<=1099511620000)(yY:fT (.list vs)<=16)(yZ:(dt (.list vs)).length<=1099511600000):
 W5.call 114 [.v (.string (bs aZ)),.list k s (xs.map λa=>[a])] h=aa (.ret (im ((si aZ (.list vs):Nat):Int)),h):=by
 obtain⟨h1,h2⟩:=hr.mN;obtain⟨r,h',c,rfl⟩:=ag7 ⟨[],[],0,[]⟩ uG aZ (bR k) s (xs.map (jK 4 h)) vs h1 (λq=>hs (by simpa using q)) (by simpa using hl) h2 ht yY yZ;refine agc (cd:=[.v (.string (bs aZ)),.list (bR k) s ((xs.map (jK 4 h)).map λa=>[a])]) rfl rfl ?_ ?_ c
 ·rw[lF,lF,lF,jK,TP];rfl
 ·simp only[aU,aL,eX,w9 _ h2,Bool.and_self]
def wQ.hold{x}{v}(h:wQ x v):wQ (aC x) v/\aL 0 0 0 (aC x)=ah:=by
 cases h with|int n hn=>exact⟨.int n hn,rfl⟩|text k s b hs hb=>rw[aC,aC,oQ];exact⟨.text _ s b hs hb,by simp[aL,eX,jz]⟩
def u7.hold{xs}{vs}(h:u7 xs vs):u7 (xs.map aC) vs/\∀a∈xs.map aC,aL 0 0 0 a=ah:=by
 refine⟨⟨by simp[h.1],λi x v hx hv=>?_⟩,λa ha=>?_⟩
 ·rw[dW] at hx;cases hy:xs[i]? with
  |none=>rw[hy] at hx;cases hx
  |some y=>rw[hy] at hx;injection hx with hx;subst hx;exact(h.2 i y v hy hv).hold.1
 ·obtain⟨y,hy,rfl⟩:=jo.1 ha;obtain⟨i,hi⟩:=s8 hy;have cH:=(aP.1 hi).1;exact(h.2 i y _ hi (aO (by rw[<-h.1];exact cH))).hold.2
def ajn(k)(s)(xs)(vs)(hr:u7 xs vs)(hs:xs≠[]->s=1)(hl:xs.length<=1000)(yY:fT (.list vs)<=16)(yZ:(dt (.list vs)).length<=1099511600000):
 ∃t,∀h,W5.call 79 [.list k s (xs.map λa=>[a])] h=aa (.ret (.list t 1 (aW (dt (.list vs)))),h):=by
 obtain⟨h1,h2⟩:=hr.hold;obtain⟨r,h',c,t,rfl⟩:=ajm ⟨[],[],0,[]⟩ uG (bR k) s (xs.map aC) vs h1 (λq=>hs (by simpa using q)) (by simpa using hl) yY yZ;exact⟨bR t,gJ (L:=L5) (cd:=[.list (bR k) s ((xs.map aC).map λa=>[a])]) rfl (by rw[bV,bV,aC,Bd]) (by rw[aU,aU,aL,eX,w9 _ h2];rfl) c rfl (by simp[aL,eX,jz])⟩
def abC(k0)(s0)(xs:List AV)(y z)(ae)(owners aw)(hx:RL (.list k0 s0 (xs.map λa=>[a])) ae)(hy:IL y owners)(hz:IL z aw)(jQ:aw.length<=1099511627776):
 (∃e,fZ ae owners aw=([],av,e)/\∀h,W5.call 76 [.agg [.list k0 s0 (xs.map λa=>[a]),y],z] h=aa (.ret (.tuple [.list .nil 0 [],.v (.bool av),.v (.int .i64 e)]),h))∨
 ∃l,fZ ae owners aw=(l,ah,0)/\l.length=ae.length/\∀h,W5.call 76 [.agg [.list k0 s0 (xs.map λa=>[a]),y],z] h=aa (.ret (.tuple [.list .held 1 (ints l),.v (.bool ah),.v (.int .i64 0)]),h):=by
 obtain⟨h1,h2⟩:=hx.hold;obtain⟨h3,h4⟩:=hy.hold;obtain⟨h5,h6⟩:=hz.hold;have ea:bV [.agg [.list k0 s0 (xs.map λa=>[a]),y],z]=[.agg [.list (bR k0) s0 ((xs.map aC).map λa=>[a]),aC y],aC z]:=by rw[bV,aC,bV,bV,bV,aC,Bd];rfl
 have ef:aU 0 0 0 [.agg [.list (bR k0) s0 ((xs.map aC).map λa=>[a]),aC y],aC z]=ah:=by have hf:=w9 _ h2;rw[aU,aL,aU,aU,aU,aU,aL,eX,hf,h4,h6];rfl
 rcases abB (bR k0) s0 (xs.map aC) (aC y) (aC z) ae owners aw h1 h3 h5 jQ with⟨e,e1,hc⟩|⟨l,e1,e2,hc⟩
 ·exact .inl ⟨e,e1,gJ (L:=L5) rfl ea ef (hc _) rfl rfl⟩
 ·exact .inr ⟨l,e1,e2,gJ (L:=L5) rfl ea ef (hc _) rfl (by simp[aL,aU,nh,qJ])⟩
def D4:Tryz.f26.results.toList=[.tmp 6]:=au
def CL{b}:gQ al 50 (.ptr (.box b) 0) 0=aa (.ptr (.box b) 0):=au
def CM{b}:gQ al 50 (.ptr (.box b) 0) 1=aa (.ptr (.box b) 1):=au
def Gb:isIface al 3=aa av:=au
def Og:isIface al 28=aa av:=au
def aim:isIface al 96=aa av:=au
def Sm(t u v)(x y z):fC al 180 3 [(0,.iface t x),(1,.iface u y),(2,.iface v z)]=aa (.list .tight 1 [[.iface t x],[.iface u y],[.iface v z]]):=au
def Qb(a b)(t):(dt (.list [.int a,.int b,.text t])).length<=60+t.length:=by
 have h1:=nw 9 (0+1+1+1);have h2:=nw 9 (j9 a);have h3:=nw 9 (j9 b);have h4:=nw 9 t.length;simp only[dt,iE,iW,dk,jI] at *
 omega
def ue:bE 4=ah:=by decide+kernel
def tj{a}(h:bE a=ah)(n):fU a n=((bD a.toNat n:Nat):Int):=by unfold fU;rw[aF h]
def rZ{a}(h:elem a=ah):bE ((a:Nat):Int)=ah:=by unfold bE;rw[dL,h,Bool.and_true];have:=(elem_iff.1 h).1;exact bX ag
def Av{a}(h:bE a=ah):elem a.toNat=ah:=by unfold bE at h;rw[bC] at h;exact h.2
def CK{a}(h:bE a=ah):1<=a/\a<=2147483578:=by obtain⟨n,rfl,h1,h2,h3⟩:=Aw h;have:P=2147483579:=rfl;omega
def afo{a}(h:bE a=ah)(n):bE ((bD a.toNat n:Nat):Int)=ah:=rZ (zA (Av h) n)
def yJ{a}(h:bE a=ah)(n):bE (fU a n)=ah:=by rw[tj h];exact afo h n
def AJ{a b}(h:bE a=ah)(k:bE b=ah):jB a b=((a.toNat * b.toNat%P:Nat):Int):=by unfold jB;rw[aF ⟨h,k⟩]
def afn{a b}(h:bE a=ah)(k:bE b=ah):bE (jB a b)=ah:=by rw[AJ h k];exact rZ (Ff (Av h) (Av k))
def asa(h:ak)(key e s:Int)(kt:Tok)(st:Nat)(text:List UInt8)(bZ:text≠[]->st=1)(hl:text.length<=1000000):
 ∃r h',W5.call 26 [im key,.list kt st (aW text),.agg [im e,im s]] h=aa (r,h')/\r=.ret (.v (.bool (uU key text e s)))/\Ext h h':=by
 have c1:=Hn key;have bx:(AV.agg [im e,im s]).b8=aa [im e,im s]:=rfl;have l0:=Oq (a9 h [im e,im s]);have l1:=Ot (a9 h [im e,im s]);have kv:aj (uU key text e s=(bE key&&da e&&da s&&decide (e=((sS ((bD Gn s * bD key.toNat (0 - e)%P:Nat):Int) key text:Nat):Int)))):=⟨by rw[Int.zero_sub];rfl⟩;generalize uU key text e s=res at *
 refine df rfl Tryz.func26 rfl ?_;unfold im at *
 by_cases hA:e<0∨s<0
 ·have d1:decide ((if s<e then s else e)<0)=ah:=bX (by split<;>omega);have kr:aj (res=av):=⟨by
   rw[kv.out];unfold da;rcases hA with q|q
   ·rw[cI (ag:¬0<=e)];simp
   ·rw[cI (ag:¬0<=s)];simp⟩
  clear hA;refine bJ @D4 @CL @CM (ar @bL (ar @Gh @Bt)) ?_;exact⟨_,_,rfl,by rw[kr.out],.push _ _⟩
 have d1:decide ((if s<e then s else e)<0)=av:=cI (by split<;>omega);by_cases hB:1073741789<=e∨1073741789<=s
 ·have d2:decide (1073741789<=(if e<s then s else e))=ah:=bX (by split<;>omega);have kr:aj (res=av):=⟨by
   rw[kv.out];unfold da Qi;rcases hB with q|q
   ·rw[cI (ag:¬e<1073741789)];simp
   ·rw[cI (ag:¬s<1073741789)];simp⟩
  clear hA hB;refine bJ @D4 @CL @CM (ar @bL (ar @Gh @Bt)) ?_;exact⟨_,_,rfl,by rw[kr.out],.push _ _⟩
 have d2:decide (1073741789<=(if e<s then s else e))=av:=cI (by split<;>omega);have aD:0<=e:=by omega
 have ia:e<1073741789:=by omega
 have ux:0<=s:=by omega
 have bB:s<1073741789:=by omega
 clear hA hB;cases hC:bE key with
 |false=>rw[hC] at c1;have kr:aj (res=av):=⟨by rw[kv.out,hC];rfl⟩;clear hC;refine bJ @D4 @CL @CM (ar @bL (ar @Gh @Bt)) ?_;exact⟨_,_,rfl,by rw[kr.out],.push _ _⟩
 |true=>
  rw[hC] at c1;have c2:=Xl 4 s;have c3:=Xl key (0 - e);have c4:=CQ (fU 4 s) (fU key (0 - e));have hr:=afn (yJ ue s) (yJ hC (0 - e));have hR:jB (fU 4 s) (fU key (0 - e))=((bD Gn s * bD key.toNat (0 - e)%P:Nat):Int):=by rw[AJ (yJ ue s) (yJ hC (0 - e)),tj ue,tj hC,dL,dL];rfl
  have kr:aj (res=decide (e=((sS (jB (fU 4 s) (fU key (0 - e))) key text:Nat):Int))):=⟨by rw[kv.out,hC,hR,xJ.2 (show okF e from⟨aD,ia⟩),xJ.2 (show okF s from⟨ux,bB⟩)];rfl⟩;have hk:=CK hC;have lK:=CK hr;clear hC hR hr;generalize jB (fU 4 s) (fU key (0 - e))=R at *
  have hlen:=Qb R key text;obtain⟨te,c5⟩:=ajn .tight 1 [.iface 3 (.v (.int .i64 R)),.iface 3 (.v (.int .i64 key)),.iface 28 (.list kt st (aW text))] [.int R,.int key,.text text]
   (.cons (.int R ⟨ag,by omega⟩) (.cons (.int key ⟨ag,by omega⟩) (.cons (.text kt st text bZ ag) .nil))) (λ_=>rfl) bh (by simp[fT,gF]) ag
  have c6:=agr wk (dt (.list [.int R,.int key,.text text])) te ag aK;have hh:mb (fQ wk (dt (.list [.int R,.int key,.text text])))=sS R key text:=rfl;rw[hh] at c6;simp only[eo,tR] at c5;generalize sS R key text=n at *
  rw[show wk=[115,105,103,110] from rfl] at c6;have wn:IntKind.i64.wrap (0 - e)=0 - e:=gf ag ag;unfold im at *
  clear hlen hh hk lK;refine bJ @D4 @CL @CM (ar @bL (ar @Gh @Bt)) ?_;refine ey ku au ?_;refine cY @D4 @CL @CM ?_;refine ey ku au ?_;refine bJ @D4 @CL @CM (ar @Gb (ar @Og @Sm)) ?_;exact⟨_,_,rfl,by rw[kr.out],.push _ _⟩
def D5:Tryz.f68.results.toList=[.tmp 6,.tmp 7]:=au
def PT:Tryz.f56.results.toList=[.tmp 6,.tmp 7]:=au
def vY(ao row:List Int)(k:Nat):Nat:=(bO k).foldl (λx j=>x * bD (ai ao j).toNat (ai row j)%P) 1
def Xo(ao row)(k):vY ao row (k+1)=vY ao row k * bD (ai ao k).toNat (ai row k)%P:=by unfold vY;rw[ob,nY];rfl
def Pn{ao row}(h:ao.all bE=ah):∀k,k<=ao.length->elem (vY ao row k)=ah
 |0,_=>yK
 |k+1,hk=>by rw[Xo];refine Ff (Pn h k ag) (zA (Av ?_) _);rw[dU] at h;exact h _ (by rw[fI ag];exact iD _)
def sQ(ae:List (List Int))(owners ao:List Int)(row:Int):Int × Int:=
 if iX ae owners ao≠0 then (0,iX ae owners ao) else if decide (row<0)||decide ((ae.length:Int)<=row) then (0,1) else (((mI ao (ae.getD row.toNat []):Nat):Int),0)
def SQ{ae}{owners ao}(h:iX ae owners ao=0):cR ae owners=0/\ao.length=bU ae/\ao.all bE=ah:=by
 unfold iX at h;split at h
 ·rename_i q;exact absurd h q
 ·rename_i q;split at h
  ·rename_i q2;rw[bC,decide_eq_true_eq] at q2;exact⟨by simpa using q,q2.1,q2.2⟩
  ·cases h
def Xq(h:ak)(x y z:AV)(ae:List (List Int))(owners ao:List Int)(hx:RL x ae)(hy:IL y owners)(hz:IL z ao)(hl:ao.length<=1000000)(row:Int):
 ∃r h',W5.call 68 [.agg [x,y],z,im row] h=aa (r,h')/\r=.ret (.tuple [im (sQ ae owners ao row).1,im (sQ ae owners ao row).2])/\Ext h h':=by
 have bx:=vX hx hy;have c1:=S9 x y z ae owners ao hx hy hz hl;have b0:=a9 h [x,y];have l0:=uB b0;have l1:=rE b0;have ln:=hx.ej;have kx:=aj.mk (ar hx hz);clear hx hy b0;have tz:aj (iX ae owners ao≠0->sQ ae owners ao row=(0,iX ae owners ao)):=⟨λq=>by unfold sQ;rw[aF q]⟩;have mF:aj (iX ae owners ao=0->row<0∨(ae.length:Int)<=row->sQ ae owners ao row=(0,1)):=⟨λq p=>by
  unfold sQ;rw[aG (by simp[q]),aF];rcases p with p|p
  ·rw[bX p];rfl
  ·rw[bX p];simp⟩
 have FV:aj (iX ae owners ao=0->¬row<0->¬(ae.length:Int)<=row->sQ ae owners ao row=(((mI ao (ae.getD row.toNat []):Nat):Int),0)):=⟨λq p1 p2=>by unfold sQ;rw[aG (by simp[q]),aG (by rw[cI p1,cI p2];simp)]⟩;have CX:=λq=>@SQ ae owners ao q;have kck:=aj.mk CX;clear CX;generalize sQ ae owners ao row=res at *
 unfold im at *
 refine df rfl Tryz.func68 rfl ?_;by_cases h0:iX ae owners ao=0;rotate_left 1
 ·have kr:=aj.mk (tz.out h0);generalize iX ae owners ao=q at *
  refine bM @D5 @bL ?_;exact⟨_,_,rfl,by rw[kr.out],.push _ _⟩
 rw[h0] at c1;by_cases h1:row<0
 ·have d1:decide (row<0)=ah:=bX h1;have kr:=aj.mk (mF.out h0 (.inl h1));clear h1 h0;refine cY @D5 @bL @dw ?_;exact⟨_,_,rfl,by rw[kr.out],.push _ _⟩
 have d1:decide (row<0)=av:=cI h1;by_cases h2:(ae.length:Int)<=row
 ·have d2:decide ((ae.length:Int)<=row)=ah:=bX h2;have kr:=aj.mk (mF.out h0 (.inr h2));clear h1 h0 h2;refine cY @D5 @bL @dw ?_;exact⟨_,_,rfl,by rw[kr.out],.push _ _⟩
 have d2:decide ((ae.length:Int)<=row)=av:=cI h2;have kr:=aj.mk (FV.out h0 h1 h2);obtain⟨q1,q2,q3⟩:=kck.out h0;obtain⟨w1,w2,w3,w4⟩:=qy q1;have dF:row.toNat<ae.length:=by omega
 have Dk:=w3 _ (iD dF);rw[<-jV (t:=ae) dF] at Dk;generalize hR:ae.getD row.toNat []=R at *
 have xj:R.length=ao.length:=by rw[Dk.1,q2]
 have dC:ao.length<=64:=by rw[<-xj];exact Dk.2.2.1
 obtain⟨k,s,xs,rfl,hs,dx,dR⟩:=kx.out.1;obtain⟨kz,sz,rfl,dH⟩:=kx.out.2;have bB:s=1:=hs (by intro q;rw[q] at dF;simp at dF);subst bB;obtain⟨a,fD⟩:∃a,xs[row.toNat]?=aa a:=⟨_,aO ag⟩;have hv:ae[row.toNat]?=aa R:=by rw[<-hR,dP,aO dF];rfl
 obtain⟨ka,sa,rfl,iZ⟩:=dR _ a R fD hv;have ld:=jY (H:=h.push [.list k 1 (xs.map λa=>[a]),y]) (s:=1) fD;have kk:=aj.mk (ar dH (ar iZ q3));have CR:0<=row:=by omega
 have vw:row<(ae.length:Int):=by omega
 have cH:(xs.map λa=>[a]).length=ae.length:=by rw[bu];exact dx
 have xu:=dn R;have UR:=dn ao;have u23:=dJ;have u22:=iq;have z23:=iM;have z3:=fP;clear hs dR dH iZ fD hv hR Dk w1 w2 w3 w4 q1 q2 q3 tz mF FV h0 kx kck hz h1 h2;refine cY @D5 @bL @dw ?_;refine cq (λm e H=>∃j:Nat,j<=ao.length/\m=ao.length - j/\e.get 2=.v (.int .i64 row)/\e.get 3=.ptr (.box h.boxes.length) 0/\e.get 6=.v (.int .i64 (vY ao R j:Nat))/\e.get 28=.list kz sz (ints ao)/\e.get 29=.v (.int .i64 (ao.length:Nat))/\e.get 30=.v (.int .i64 (j:Nat))/\e.defers=[]/\H=h.push [.list k 1 (xs.map λa=>[a]),y]) ?_ ao.length _ _ ?_;rotate_left 1
 ·refine⟨0,cr _,rfl,?_,?_,?_,?_,?_,?_,?_,rfl⟩<;>exact gR
 rintro m e H ⟨j,hj,rfl,g2,g3,g6,g28,g29,g30,hd,rfl⟩;by_cases aA:j<ao.length
 ·have jg:sz=1:=kk.out.1 (by intro q;rw[q] at aA;simp at aA);subst jg;have vz:sa=1:=kk.out.2.1 (by intro q;rw[q] at xj;simp at xj;omega);subst vz;have fL:(j:Int)<(ao.length:Int):=by omega
  have ata:(j:Int)<(R.length:Int):=by omega
  have lc:=e7 (H:=h.push [.list k 1 (xs.map λa=>[a]),y]) (l:=ao) (i:=j) (s:=1) aA;have lr:=e7 (H:=h.push [.list k 1 (xs.map λa=>[a]),y]) (l:=R) (i:=j) (s:=1) ag;have he:bE (ai ao j)=ah:=by have:=kk.out.2.2;rw[dU] at this;exact this _ (by rw[fI aA];exact iD _)
  have c2:=Fj (ai ao j) (ai R j);have c3:=CQ ((vY ao R j:Nat):Int) (fU (ai ao j) (ai R j));have hK:=rZ (Pn (row:=R) kk.out.2.2 j hj);have e3:jB ((vY ao R j:Nat):Int) (fU (ai ao j) (ai R j))=((vY ao R (j+1):Nat):Int):=by rw[AJ hK (yJ he _),tj he,Xo,dL,dL]
  have e4:ma (ai ao j)=0:=by unfold ma;rw[aF he]
  have e5:mO ((vY ao R j:Nat):Int) (fU (ai ao j) (ai R j))=0:=by unfold mO;rw[aF ⟨hK,yJ he _⟩]
  rw[e4] at c2;rw[e3,e5] at c3;clear he hK e3 e4 e5;generalize fU (ai ao j) (ai R j)=pw at *
  generalize ai ao j=cj at *
  generalize ai R j=rj at *
  unfold im at *
  refine cY @D5 @dw @a8 ?_;exact⟨ao.length - (j+1),by omega,j+1,by omega,rfl,by simp⟩
 ·have:j=ao.length:=by omega
  subst this;have e:vY ao R ao.length=mI ao R:=rfl;refine br @D5 ?_;exact⟨_,_,rfl,by rw[kr.out,<-e],.push _ _⟩
def sd(ae:List (List Int))(owners ao:List Int)(p:Int × Int):Bool × Int:=
 if iX ae owners ao≠0 then (av,iX ae owners ao) else if uP ae p=av then (av,340) else (decide (bD Gn p.2=mI ao (ae.getD p.1.toNat [])),0)
def afZ(h:ak)(x y z:AV)(ae:List (List Int))(owners ao:List Int)(hx:RL x ae)(hy:IL y owners)(hz:IL z ao)(hl:ao.length<=1000000)(a v:Int):
 ∃r h',W5.call 56 [.agg [x,y],z,.agg [im a,im v]] h=aa (r,h')/\r=.ret (.tuple [.v (.bool (sd ae owners ao (a,v)).1),im (sd ae owners ao (a,v)).2])/\Ext h h':=by
 have bx:=vX hx hy;have b2:(AV.agg [im a,im v]).b8=aa [im a,im v]:=rfl;have c1:=S9 x y z ae owners ao hx hy hz hl;have c2:=amT x y ae owners hx hy a v;obtain⟨_,H2,c3,rfl,x3⟩:=Xq ((h.push [x,y]).push [im a,im v]) x y z ae owners ao hx hy hz hl a;have c4:=Fj 4 v;have e4:ma 4=0:=by unfold ma;rw[aF ue]
 rw[e4,tj ue] at c4;have q1:((h.push [x,y]).push [im a,im v]).boxes[h.boxes.length]?=aa [x,y]:=bg (a9 h [x,y]);have q2:=a9 (h.push [x,y]) [im a,im v];have l0:=uB q1;have l1:aI al Gt ((h.push [x,y]).push [im a,im v]) 81 (.ptr (.box (h.push [x,y]).boxes.length) 0)=aa (.agg [im a,im v]):=by rw[ja au (by kernel_rfl:dm al 81=aa 2) q2 (aJ 2)];rfl
 have l2:=Oq q2;have l3:aI al Gt H2 3 (.ptr (.box (h.push [x,y]).boxes.length) 1)=aa (im v):=Ot (x3.box _ _ q2);have kX:=aj.mk (((Ext.push h [x,y]).trans (.push _ [im a,im v])).trans x3);have X1:=aj.mk ((Ext.push h [x,y]).trans (.push _ [im a,im v]));have tz:aj (iX ae owners ao≠0->sd ae owners ao (a,v)=(av,iX ae owners ao)):=⟨λq=>by unfold sd;rw[aF q]⟩;have mF:aj (iX ae owners ao=0->uP ae (a,v)=av->sd ae owners ao (a,v)=(av,340)):=⟨λq p=>by unfold sd;rw[aG (by simp[q]),aF p]⟩;have FV:aj (iX ae owners ao=0->uP ae (a,v)=ah->sd ae owners ao (a,v)=(decide (bD Gn v=mI ao (ae.getD a.toNat [])),0)):=⟨λq p=>by unfold sd;rw[aG (by simp[q]),aG (by simp[p])]⟩;have vM:aj (iX ae owners ao=0->uP ae (a,v)=ah->sQ ae owners ao a=(((mI ao (ae.getD a.toNat []):Nat):Int),0)):=⟨λq p=>by unfold uP at p;simp only[bC,decide_eq_true_eq] at p;unfold sQ;rw[aG (by simp[q]),aG];rw[cI (ag:¬a<0),cI (ag:¬(ae.length:Int)<=a)];simp⟩;clear hx hy hz q1 q2 x3 e4;generalize sd ae owners ao (a,v)=res at *
 refine df rfl Tryz.func56 rfl ?_;by_cases h0:iX ae owners ao=0;rotate_left 1
 ·have kr:=aj.mk (tz.out h0);clear c3 c2 l3;generalize iX ae owners ao=q at *
  unfold im at *
  refine bM @PT @bL ?_;exact⟨_,_,rfl,by rw[kr.out],X1.out⟩
 rw[h0] at c1;cases h1:uP ae (a,v) with
 |false=>
  have kr:=aj.mk (mF.out h0 h1);rw[h1] at c2;clear c3 h1 h0 l3;unfold im at *
  refine bM @PT @bL ?_;exact⟨_,_,rfl,by rw[kr.out],X1.out⟩
 |true=>
  have kr:=aj.mk (FV.out h0 h1);rw[vM.out h0 h1] at c3;rw[h1] at c2;clear h1 h0;have hG:(4:Int).toNat=Gn:=rfl;rw[hG] at c4;have hd:decide (bD Gn v=mI ao (ae.getD a.toNat []))=decide (((bD Gn v:Nat):Int)=((mI ao (ae.getD a.toNat []):Nat):Int)):=by rw[decide_eq_decide];omega
  rw[hd] at kr;generalize ((bD Gn v:Nat):Int)=p1 at *
  generalize ((mI ao (ae.getD a.toNat []):Nat):Int)=p2 at *
  clear tz mF FV vM hd hG;unfold im at *
  refine bJ @PT @bL @Iq @Ir ?_;exact⟨_,_,rfl,by rw[kr.out],kX.out⟩
def yb:Tryz.f44.results.toList=[.tmp 6,.tmp 7,.tmp 8]:=au
def apT{T E}{n}(hu:al.underlying T=aa (.slice E))(hi:∃i,al.info? E=aa i/\i.size=n/\i.bytes<=64/\(i.zero.map λz=>z.cells.size)=aa n)(hn:0<n){H}{k}{n0 sz}{es}{r}
 (hl:es.length<1000000) (hs:sz=n∨(es=[]/\k=.nil)) (hk:dj n0 H k):gq al H #[T,T] (.list k sz es) (.list .tight n [r])=aa (.list (.free H.tn) n (es++[r]),H.app k):=by
 obtain⟨i,h1,q2,q3,h4⟩:=hi;have hb:=pg (ag:es.length+1<=1000000) q3;have:=E6 (P:=al) (h:=H) (n0:=n0) (k:=k) (sz:=sz) (es:=es) (new:=[r]) (x:=.list .tight n [r]) (t1:=T) hu (.inl ⟨E,hu⟩) h1 ag (by rw[q2];exact h4) (by rw[q2];unfold me rowsOf;simp) bh (by simp;omega) (by simp;omega) (by rw[q2];exact hs) hk
 rwa [q2] at this
def aio:∃i,al.info? 81=aa i/\i.size=2/\i.bytes<=64/\(i.zero.map λz=>z.cells.size)=aa 2:=by
 have h:(match al.info? 81 with|some i=>jq i.size 2&&Lk i.bytes 64&&decide ((i.zero.map λz=>z.cells.size)=aa 2)|none=>av)=ah:=au;cases hi:al.info? 81 with
 |none=>rw[hi] at h;cases h
 |some i=>rw[hi] at h;simp only[bC,decide_eq_true_eq] at h;exact⟨i,rfl,jw h.1.1,lW h.1.2,h.2⟩
def yc(p:Int × Int):List AV:=[.v (.int .i64 p.1),.v (.int .i64 p.2)]
def gZ(l:List (Int × Int)):List (List AV):=l.map yc
def SL(x:AV)(l:List (Int × Int)):Prop:=∃k s,x=.list k s (gZ l)/\(l≠[]->s=2)
def qZ(ae:List (List Int))(s:List Int):List (Int × Int):=(bO ae.length).map λi=>(((i:Nat):Int),pC (ae.getD i []) s)
def afc(ae)(s):(qZ ae s).length=ae.length:=by unfold qZ;simp
def afb{ae}{s r}{i}(h:ae[i]?=aa r):(qZ ae s)[i]?=aa (((i:Nat):Int),pC r s):=by unfold qZ;have hi:=(aP.1 h).1;rw[dW,ED hi,eJ,dP,h];rfl
def th(ae:List (List Int))(owners:List Int)(fX:Int)(gB:List Int):Int:=
 if cR ae owners≠0 then cR ae owners else if da fX&&gB.all da&&decide ((gB.length:Int)=(bU ae:Nat) - 1) then 0 else 1
def Gr(h H:ak)(t:Tok):Prop:=Ext h H/\cA H=ah/\dj h.tn H t
def Gr.app{h H}{t}(g:Gr h H t):Gr h (H.app t) (.free H.tn):=by have gr:=Grown.one g.2.2 g.2.1 g.1.tn;exact⟨gr.ext g.1 (aJ _),gr.ok,gr.can⟩
def Gr.push{h H}{t}(g:Gr h H t)(cs):Gr h (H.push cs) t:=⟨g.1.trans (.push _ _),g.2.1,by rw[CA];exact g.2.2⟩
def Gr.nil{h H}(x:Ext h H)(o:cA H=ah):Gr h H .nil:=⟨x,o,.inl rfl⟩
def acY(x y)(hx:x.dN=ah)(hy:y.dN=ah):fC al 22 2 [(0,x),(1,y)]=aa (.list .tight 1 [[x],[y]]):=by cases x<;>first|(cases hx;done)|(cases y<;>first|(cases hy;done)|kernel_rfl)
def IL.dN{x}{l}(h:IL x l):x.dN=ah:=by obtain⟨k,s,rfl,-⟩:=h;rfl
def ac7(a b):fC al 36 1 [(0,.agg [.v (.int .i64 a),.v (.int .i64 b)])]=aa (.list .tight 2 [[.v (.int .i64 a),.v (.int .i64 b)]]):=au
def acx(a b):mw al 81 [(0,.v (.int .i64 a)),(1,.v (.int .i64 b))]=aa (.agg [.v (.int .i64 a),.v (.int .i64 b)]):=au
def ae8(h:ak)(bA:cA h=ah)(x y z:AV)(ae:List (List Int))(owners gB:List Int)(fX:Int)(hx:RL x ae)(hy:IL y owners)(hz:IL z gB)(hl:gB.length<=1000)(lK:ae.length<=1000000):
 ∃r h',W5.call 44 [.agg [x,y],im fX,z] h=aa (r,h')/\
  ((th ae owners fX gB≠0/\r=.ret (.tuple [.list .nil 0 [],.list .nil 0 [],im (th ae owners fX gB)]))∨
  (th ae owners fX gB=0/\∃t1 s1 t2 s2,r=.ret (.tuple [.list t1 s1 (gZ (qZ ae (fX::gB))),.list t2 s2 (ints (dG (fX::gB))),im 0])/\(qZ ae (fX::gB)≠[]->s1=2)/\s2=1)):=by
 have bx:=vX hx hy;have c1:=SO x y ae owners hx hy;have c2:=WE (.list .tight 1 [[.v (.int .i64 fX)]]) [fX] (Jj fX) bh;rw[(bh:[fX].all da=da fX)] at c2;have c3:=WE z gB hz ag;have c4:=aer x y ae owners hx hy;obtain⟨z2,gI,c5⟩:=aeG (.list .tight 1 [[.v (.int .i64 fX)]]) z [fX] gB (Jj fX) hz (by simp;omega);have b0:=a9 h [x,y];have l0:=uB b0;have l1:=rE b0;have lz:=hz.ej;have bl:=po fX;have blt:=acY (.list .tight 1 [[.v (.int .i64 fX)]]) z rfl hz.dN;have lx:=hx.ej;have tz:aj (cR ae owners≠0->th ae owners fX gB=cR ae owners):=⟨λq=>by unfold th;rw[aF q]⟩;have mF:aj (cR ae owners=0->th ae owners fX gB=if da fX&&gB.all da&&decide ((gB.length:Int)=(bU ae:Nat) - 1) then 0 else 1):=⟨λq=>by unfold th;rw[aG (by simp[q])]⟩;have kok:=aj.mk (λq=>@qy ae owners q);have kcp:=aj.mk (λq=>@ud ae owners q);have kx:=aj.mk (ar hx gI);have AR:(bU ae:Int)<=1000000∨cR ae owners≠0:=by
  by_cases q:cR ae owners=0
  ·have:=(ud q).2;exact .inl ag
  ·exact .inr q
 clear hx hy hz b0 gI;generalize th ae owners fX gB=res at *
 unfold im at *
 refine df rfl Tryz.func44 rfl ?_;by_cases h0:cR ae owners=0;rotate_left 1
 ·have e1:=tz.out h0;have kr:=aj.mk (ar h0 e1);clear e1 AR c2 c3 c4 c5;generalize cR ae owners=q at *
  refine bM @yb @bL ?_;exact⟨_,_,rfl,.inl ⟨by rw[kr.out.2];exact kr.out.1,by rw[kr.out.2]⟩⟩
 rw[h0] at c1;have gH:=mF.out h0;have hcp:=kcp.out h0;have hw:IntKind.i64.wrap ((bU ae:Nat) - 1:Int)=(bU ae:Nat) - 1:=gf ag ag;clear tz mF kcp AR;have bad:∀(q:(da fX&&gB.all da&&decide ((gB.length:Int)=(bU ae:Nat) - 1))=av),res=1:=λq=>by rw[gH,aG (by simp[q])]
 have good:∀(q:(da fX&&gB.all da&&decide ((gB.length:Int)=(bU ae:Nat) - 1))=ah),res=0:=λq=>by rw[gH,aF q]
 have kb:=aj.mk bad;have kg:=aj.mk good;clear bad good gH;cases h1:da fX with
 |false=>rw[h1] at c2;have kr:aj (res=1):=⟨kb.out (by rw[h1];rfl)⟩;clear h1 h0 c3 c4 c5;refine bM @yb @bL ?_;exact⟨_,_,rfl,.inl ⟨by rw[kr.out];decide,by rw[kr.out]⟩⟩
 |true=>
 rw[h1] at c2;cases h2:gB.all da with
 |false=>rw[h2] at c3;have kr:aj (res=1):=⟨kb.out (by rw[h1,h2];rfl)⟩;clear h1 h2 h0 c4 c5;refine bM @yb @bL ?_;exact⟨_,_,rfl,.inl ⟨by rw[kr.out];decide,by rw[kr.out]⟩⟩
 |true=>
 rw[h2] at c3;by_cases h3:(gB.length:Int)=(bU ae:Nat) - 1;rotate_left 1
 ·have d3:decide ((gB.length:Int)=((bU ae:Nat):Int) - 1)=av:=cI h3;have kr:aj (res=1):=⟨kb.out (by rw[h1,h2,d3];rfl)⟩;clear h1 h2 h3 h0 c5;refine bM @yb @bL ?_;exact⟨_,_,rfl,.inl ⟨by rw[kr.out];decide,by rw[kr.out]⟩⟩
 have d3:decide ((gB.length:Int)=((bU ae:Nat):Int) - 1)=ah:=bX h3;have kr:aj (res=0):=⟨kg.out (by rw[h1,h2,d3];rfl)⟩;have mG:(fX::gB).length=bU ae:=by simp;omega
 obtain⟨w1,w2,w3,w4⟩:=kok.out h0;have kw:=aj.mk w3;have ks:=aj.mk mG;rw[List.singleton_append] at kx;obtain⟨k,s,xs,rfl,hs,dx,dR⟩:=kx.out.1;obtain⟨kz,sz,rfl,dH⟩:=kx.out.2;have kk:=aj.mk (ar hs (ar dR dH));have aid:sz=1:=dH bh;subst aid;have u23:=dJ;have u22:=iq;have u36:=Tryz.underlying36;have z23:=iM;have z3:=fP;have cH:(xs.map λa=>[a]).length=ae.length:=by rw[bu];exact dx
 have xu:=dn (fX::gB);clear hs dR dH w1 w3 w4 h1 h2 h3 h0 mG kok kb kg;generalize hS:fX::gB=S at *
 refine cY @yb @bL @dw ?_;refine bG.gen λe0 aD bI cT cJ=>?_;have f6:e0.get 6=.list .nil 0 []:=by rw[aD];exact gS
 have f7:e0.get 7=.list .nil 0 []:=by rw[aD];exact gS
 have f10:e0.get 10=.list kz 1 (ints S):=by rw[aD];exact gS
 have f45:e0.get 45=.list k s (xs.map λa=>[a]):=by rw[aD];exact gS
 have f46:e0.get 46=.v (.int .i64 (ae.length:Nat)):=by rw[aD];exact gS
 have f47:e0.get 47=.v (.int .i64 (0:Nat)):=by rw[aD];exact gR
 have fd:e0.defers=[]:=by rw[bI];exact gS
 clear aD bI cT cJ c1 c2 c3 c4 c5 l0 l1 bl blt hw d3 lz;refine cq (λm e H=>∃(i:Nat) (t:Tok) (sz:Nat),i<=ae.length/\m=ae.length - i/\aj (Gr h H t)/\aj (sz=2∨(gZ ((qZ ae S).take i)=[]/\t=.nil))/\e.get 6=.list t sz (gZ ((qZ ae S).take i))/\e.get 7=.list .nil 0 []/\e.get 10=.list kz 1 (ints S)/\e.get 45=.list k s (xs.map λa=>[a])/\e.get 46=.v (.int .i64 (ae.length:Nat))/\e.get 47=.v (.int .i64 (i:Nat))/\e.defers=[]) ?_ ae.length _ _ ?_;rotate_left 1
 ·exact⟨0,.nil,0,cr _,rfl,⟨Gr.nil (.push _ _) bA⟩,⟨.inr ⟨rfl,rfl⟩⟩,f6,f7,f10,f45,f46,f47,fd⟩
 clear f6 f7 f10 f45 f46 f47 fd;rintro m e H ⟨i,t,sz,hi,rfl,kG,ksz,g6,g7,g10,g45,g46,g47,hd⟩;by_cases aA:i<ae.length
 ·have bB:s=1:=kk.out.1 (by intro q;rw[q] at aA;simp at aA);subst bB;obtain⟨a,fD⟩:∃a,xs[i]?=aa a:=⟨_,aO ag⟩;obtain⟨r,hv⟩:∃r,ae[i]?=aa r:=⟨_,aO aA⟩;have ld:=jY (H:=H) (s:=1) fD;have Vt:=kk.out.2.1 i a r fD hv;have Dk:=kw.out r (de hv);have c6:=arE a (.list kz 1 (ints S)) r S Vt ⟨_,_,rfl,λ_=>rfl⟩ ag (by have:=ks.out;omega);have fL:(i:Int)<(ae.length:Int):=by omega
  have ap:=apT (T:=36) (r:=yc (((i:Nat):Int),pC r S)) u36 aio aK (by unfold gZ;rw[bu,eP];omega) ksz.out kG.out.2.2;have kG2:=aj.mk kG.out.app;have e9:gZ ((qZ ae S).take i)++[yc (((i:Nat):Int),pC r S)]=gZ ((qZ ae S).take (i+1)):=by rw[fH (afb hv)];unfold gZ;simp
  rw[e9] at ap;clear fD hv Vt Dk e9;generalize pC r S=dv at *
  unfold im yc at *
  refine bJ @yb @a8 @acx @ac7 ?_;exact⟨ae.length - (i+1),by omega,i+1,_,2,by omega,rfl,kG2,⟨.inl rfl⟩,by simp⟩
 have fK:i=ae.length:=by omega
 subst fK;rw[gm (by rw[afc];exact aJ _)] at g6 ksz;have kX:=aj.mk kG.out.1;have ko:=aj.mk kG.out.2.1;clear kG;refine br @yb ?_;refine bG.gen λe0 aD bI cT cJ=>?_;have f6:e0.get 6=.list t sz (gZ (qZ ae S)):=by rw[aD];simp only[gW,reduceIte,aX,aR];exact g6
 have f7:e0.get 7=.list .nil 0 []:=by rw[aD];simp only[gW,reduceIte,aX,aR];exact g7
 have f61:e0.get 61=.list kz 1 (ints S):=by rw[aD];exact gS
 have f62:e0.get 62=.v (.int .i64 (S.length:Nat)):=by rw[aD];exact gS
 have f63:e0.get 63=.v (.int .i64 (0:Nat)):=by rw[aD];exact gR
 have fd:e0.defers=[]:=by rw[bI];simp only[gW,reduceIte,aX,aR];exact hd
 clear aD bI cT cJ g6 g7 g10 g45 g46 g47 hd;have hSl:S.length<=1001:=by rw[<-hS];simp;omega
 have e4:ma 4=0:=by unfold ma;rw[aF ue]
 clear hS;have dC:(dG S).length=S.length:=by unfold dG;simp
 refine cq (λm e H2=>∃(j:Nat) (t2:Tok) (sz2:Nat),j<=S.length/\m=S.length - j/\aj (Gr h H2 t2)/\aj (sz2=1∨((dG S).take j=[]/\t2=.nil))/\e.get 6=.list t sz (gZ (qZ ae S))/\e.get 7=.list t2 sz2 (ints ((dG S).take j))/\e.get 61=.list kz 1 (ints S)/\e.get 62=.v (.int .i64 (S.length:Nat))/\e.get 63=.v (.int .i64 (j:Nat))/\e.defers=[]) ?_ S.length _ _ ?_;rotate_left 1
 ·exact⟨0,.nil,0,cr _,rfl,⟨Gr.nil kX.out ko.out⟩,⟨.inr ⟨rfl,rfl⟩⟩,f6,f7,f61,f62,f63,fd⟩
 clear f6 f7 f61 f62 f63 fd;rintro m e H2 ⟨j,t2,sz2,hj,rfl,kG,ksz2,g6,g7,g61,g62,g63,hd⟩;by_cases qn:j<S.length
 ·have ld:=e7 (H:=H2) (l:=S) (i:=j) (s:=1) qn;have c2:=Fj 4 (ai S j);rw[e4,tj ue] at c2;have hG:(4:Int).toNat=Gn:=rfl;rw[hG] at c2;have fL:(j:Int)<(S.length:Int):=by omega
  have hv:(dG S)[j]?=aa ((bD Gn (ai S j):Nat):Int):=by unfold dG;rw[dW,aO qn,fI qn];rfl
  have ap:=tY (x:=((bD Gn (ai S j):Nat):Int)) (es:=(dG S).take j) (by rw[eP];omega) ksz2.out kG.out.2.2;have kG2:=aj.mk kG.out.app;rw[<-fH hv] at ap;have bl:=po ((bD Gn (ai S j):Nat):Int);clear hv hG;generalize ((bD Gn (ai S j):Nat):Int)=pv at *
  generalize ai S j=sj at *
  unfold im at *
  refine bM @yb @a8 ?_;exact⟨S.length - (j+1),by omega,j+1,_,1,by omega,rfl,kG2,⟨.inl rfl⟩,by simp⟩
 ·have nO:j=S.length:=by omega
  subst nO;rw[gm ag] at g7 ksz2;refine br @yb ?_;refine⟨_,_,rfl,.inr ⟨kr.out,_,_,_,_,rfl,λq=>?_,?_⟩⟩
  ·rcases ksz.out with z|⟨z,-⟩
   ·exact z
   ·exact absurd (List.map_eq_nil_iff.1 z) q
  ·rcases ksz2.out with z|⟨z,-⟩
   ·exact z
   ·exfalso;have h1:=ks.out;have h2:(dG S).length=0:=(by rw[z];rfl);omega
def aoP:Tryz.f45.results.toList=[.cell 6 85,.tmp 7]:=au
def bF(p:Pr):List AV:=[.v (.int .i64 p.az),.v (.int .i64 p.no),.v (.int .i64 p.d),.v (.int .i64 p.e)]
def zJ:(iN al 85).bind AV.b8=aa (bF ⟨0,0,0,0⟩):=au
def sU:dm al 85=aa 4:=au
def RS:gx al 85=aa ah:=au
def acy(a b c d):mw al 85 [(0,.v (.int .i64 a)),(1,.v (.int .i64 b)),(2,.v (.int .i64 c)),(3,.v (.int .i64 d))]=aa (.agg (bF ⟨a,b,c,d⟩)):=au
def wB{H:ak}(p):ct al (H.push (bF ⟨0,0,0,0⟩)) 85 (.ptr (.box H.boxes.length) 0) (.agg (bF p))=aa (H.push (bF p)):=lq rfl sU rfl rfl
def vU{H}{b}{p}(hb:H.boxes[b]?=aa (bF p)):aI al Gt H 85 (.ptr (.box b) 0)=aa (.agg (bF p)):=by rw[ja RS sU hb (aJ 4)];rfl
def akH(h:ak)(n d f:Int)(hn:0<=n/\n<=1000000):
 ∃r h',W5.call 45 [im n,im d,im f] h=aa (r,h')/\r=.ret (.tuple [.agg (bF ⟨n,n%7,(bD Gn d:Nat),(bD Gn f:Nat)⟩),.v (.bool ah)]):=by
 have c1:=Fj 4 d;have c2:=Fj 4 f;have e4:ma 4=0:=by unfold ma;rw[aF ue]
 have hG:(4:Int).toNat=Gn:=rfl;rw[e4,tj ue,hG] at c1 c2;have z:=zJ;have st:=wB (H:=h) ⟨n,n%7,(bD Gn d:Nat),(bD Gn f:Nat)⟩;have ld:=vU (a9 h (bF ⟨n,n%7,(bD Gn d:Nat),(bD Gn f:Nat)⟩));have hm:n.tmod 7=n%7:=Int.tmod_eq_emod_of_nonneg hn.1;have h7:0<=n%7/\n%7<7:=⟨Int.emod_nonneg _ aK,Int.emod_lt_of_pos _ aK⟩;generalize ((bD Gn d:Nat):Int)=dv at *
 generalize ((bD Gn f:Nat):Int)=fv at *
 generalize n%7=q at *
 unfold im at *
 clear e4 hG;refine df rfl Tryz.func45 rfl ?_;refine bM @aoP @acy ?_;exact⟨_,_,rfl,rfl⟩
def KA(n:Int):List AV:=[.v (.int .u32 n)]
def UL(x:AV)(l:List Int):Prop:=(∃k s,x=.list k s (l.map KA)/\(l≠[]->s=1))/\∀n∈l,0<=n/\n<4294967296
def aiX{H}{l}{i s}{p}(h:l[i]?=aa p):aI al Gt H 3 (.elem s (gZ l) i 0)=aa (.v (.int .i64 p.1)):=by rw[qw eM (row:=yc p) (by unfold gZ;rw[dW,h];rfl)];rfl
def aiY{H}{l}{i s}{p}(h:l[i]?=aa p):aI al Gt H 3 (.elem s (gZ l) i 1)=aa (.v (.int .i64 p.2)):=by rw[qw eM (row:=yc p) (by unfold gZ;rw[dW,h];rfl)];rfl
def abV:gx al 81=aa ah:=au
def Zp:dm al 81=aa 2:=au
def aiW{H}{l}{i s}{p}(h:l[i]?=aa p):aI al Gt H 81 (.elem s (gZ l) i 0)=aa (.agg [.v (.int .i64 p.1),.v (.int .i64 p.2)]):=by rw[Jr abV Zp (row:=yc p) (by unfold gZ;rw[dW,h];rfl) (aJ 2)];rfl
def yO{sz i}{es}:gQ al 81 (.elem sz es i 0) 0=aa (.elem sz es i 0):=au
def Tk{sz i}{es}:gQ al 81 (.elem sz es i 0) 1=aa (.elem sz es i 1):=au
def YA(l):(gZ l).length=l.length:=bu _
def JW:Tryz.f124.results.toList=[.tmp 4]:=au
def Pz:Tryz.f113.results.toList=[.tmp 4]:=au
def PW:Tryz.f71.results.toList=[.tmp 4]:=au
def eS(l:List Pr):List (List AV):=l.map bF
def xV(l):(eS l).length=l.length:=bu _
def PL(x:AV)(l:List Pr):Prop:=∃k s,x=.list k s (eS l)/\(l≠[]->s=4)
def DD{H}{l}{i s}{p}(h:l[i]?=aa p):aI al Gt H 85 (.elem s (eS l) i 0)=aa (.agg (bF p)):=by rw[Jr RS sU (row:=bF p) (by unfold eS;rw[dW,h];rfl) (aJ 4)];rfl
def PL.ej{x}{l}(h:PL x l):ej al 29 x=aa (.v (.int .i64 (l.length:Nat))):=by obtain⟨k,s,rfl,-⟩:=h;have u29:=wS;unfold Go.AE.ej;rw[u29];simp only[xV]
def aip(g:FuncId)(aB:List AV)(p:Pr->Bool)(h:ak)(x:AV)(l:List Pr)(hx:PL x l)(hl:l.length<=1000000)
 (hp:∀q∈l,∀H,Ext h H->∃H',W5.call g (.agg (bF q)::aB) H=aa (.ret (.v (.bool (p q))),H')/\Ext H H'):
 ∃r h',W5.call 124 [x,.func (.func g) [] aB] h=aa (r,h')/\Ext h h'/\((l.find? p=aq/\r=.ret (im (-1)))∨∃(i:Nat) (q:Pr),r=.ret (im (i:Nat))/\l[i]?=aa q/\l.find? p=aa q):=by
 obtain⟨k,s,rfl,hs⟩:=hx;have kp:=aj.mk (ar hp hs);clear hp hs;have u29:=wS;have z85:=sU;have cH:=xV l;unfold im;refine df rfl Tryz.func124 rfl ?_;refine br @JW ?_;refine cq (λm e H=>∃i:Nat,i<=l.length/\m=l.length - i/\aj ((l.take i).find? p=aq)/\aj (Ext h H)/\e.get 0=.list k s (eS l)/\e.get 1=.func (.func g) [] aB/\e.get 7=.v (.int .i64 (l.length:Nat))/\e.get 8=.v (.int .i64 (i:Nat))/\e.defers=[]) ?_ l.length _ _ ?_;rotate_left 1
 ·refine⟨0,cr _,rfl,⟨rfl⟩,⟨.refl _⟩,?_,?_,?_,?_,?_⟩<;>exact gR
 rintro m e H ⟨i,hi,rfl,ka,kX,g0,g1,g7,g8,hd⟩;by_cases aA:i<l.length
 ·have bB:s=4:=kp.out.2 (by intro q;rw[q] at aA;simp at aA);subst bB;obtain⟨q,hq⟩:∃q,l[i]?=aa q:=⟨_,aO aA⟩;have ld:=DD (H:=H) (s:=4) hq;obtain⟨H',hc,hX⟩:=kp.out.1 q (de hq) H kX.out;have kX2:=aj.mk (kX.out.trans hX);have fL:(i:Int)<(l.length:Int):=by omega
  have kq:=aj.mk hq;have kt:=aj.mk (fH hq);clear hX hq;cases fc:p q with
  |true=>rw[fc] at hc;have UJ:l.find? p=aa q:=(by have e:l=l.take i++q::l.drop (i+1):=(by rw[<-List.getElem_of_getElem? kq.out|>.2];simp);rw[e,aau,ka.out,List.find?_cons_of_pos fc];rfl);have kf:=aj.mk UJ;clear UJ fc;refine cY @JW @a8 @kj.{0} ?_;exact⟨_,_,rfl,kX2.out,.inr ⟨i,q,rfl,kq.out,kf.out⟩⟩
  |false=>rw[fc] at hc;have kt2:aj ((l.take (i+1)).find? p=aq):=⟨by rw[kt.out,aau,ka.out];simp[fc]⟩;clear fc;refine cY @JW @a8 @kj.{0} ?_;exact⟨l.length - (i+1),by omega,i+1,by omega,rfl,kt2,by first|exact kX2|trivial,by simp⟩
 ·have:i=l.length:=by omega
  subst this;have:=ka.out;rw[fA] at this;have kan:=aj.mk this;clear this;refine br @JW ?_;exact⟨_,_,rfl,kX.out,.inl ⟨kan.out,rfl⟩⟩
def MD{a b}(ha:elem a=ah)(hb:elem b=ah):jB ((a:Nat):Int) ((b:Nat):Int)=((a * b%P:Nat):Int):=by rw[AJ (rZ ha) (rZ hb),dL,dL]
def Bx{α:Type}{f:α->Nat}:∀{l:List α} (_:∀p∈l,elem (f p)=ah) {k:Nat} (_:elem k=ah),elem (l.foldl (λx p=>x * f p%P) k)=ah
 | [],_,_,hk=>hk
 |a::l,h,k,hk=>Bx (l:=l) (λp hp=>h p (fi _ hp)) (Ff hk (h a fR))
def alG(g:FuncId)(first aB:List AV)(f:Pr->Nat)(h:ak)(x:AV)(l:List Pr)(hx:PL x l)(hl:l.length<=1000000)(he:∀q∈l,elem (f q)=ah)
 (hp:∀q∈l,∀H,Ext h H->∃H',W5.call g (first++[.agg (bF q)]++aB) H=aa (.ret (im (f q:Nat)),H')/\Ext H H'):
 ∃r h',W5.call 113 [x,.func (.func g) first aB] h=aa (r,h')/\Ext h h'/\r=.ret (im ((l.foldl (λx q=>x * f q%P) 1:Nat):Int)):=by
 obtain⟨k,s,rfl,hs⟩:=hx;have kp:=aj.mk (ar hp (ar hs he));clear hp hs he;have u29:=wS;have z85:=sU;have zc:=zJ;have cH:=xV l;unfold im;refine df rfl Tryz.func113 rfl ?_;refine br @Pz ?_;refine cq (λm e H=>∃i:Nat,i<=l.length/\m=l.length - i/\aj (Ext h H)/\e.get 1=.func (.func g) first aB/\e.get 5=.v (.int .i64 (((l.take i).foldl (λx q=>x * f q%P) 1:Nat):Int))/\e.get 8=.list k s (eS l)/\e.get 9=.v (.int .i64 (l.length:Nat))/\e.get 10=.v (.int .i64 (i:Nat))/\e.defers=[]) ?_ l.length _ _ ?_;rotate_left 1
 ·refine⟨0,cr _,rfl,⟨.refl _⟩,?_,?_,?_,?_,?_,?_⟩<;>exact gR
 rintro m e H ⟨i,hi,rfl,kX,g1,g5,g8,g9,g10,hd⟩;by_cases aA:i<l.length
 ·have bB:s=4:=kp.out.2.1 (by intro q;rw[q] at aA;simp at aA);subst bB;obtain⟨q,hq⟩:∃q,l[i]?=aa q:=⟨_,aO aA⟩;have hm:=de hq;have ld:=DD (H:=H) (s:=4) hq;have st:=wB (H:=H) q;have l2:=vU (a9 H (bF q));obtain⟨H',hc,hX⟩:=kp.out.1 q hm (H.push (bF q)) (kX.out.trans (.push _ _));have kX2:=aj.mk ((kX.out.trans (.push H (bF q))).trans hX);have fL:(i:Int)<(l.length:Int):=by omega
  have eacc:elem ((l.take i).foldl (λx q=>x * f q%P) 1)=ah:=Bx (λp hp=>kp.out.2.2 p (oa hp)) yK;have c2:=CQ (((l.take i).foldl (λx q=>x * f q%P) 1:Nat):Int) ((f q:Nat):Int);have e2:mO (((l.take i).foldl (λx q=>x * f q%P) 1:Nat):Int) ((f q:Nat):Int)=0:=by unfold mO;rw[aF ⟨rZ eacc,rZ (kp.out.2.2 q hm)⟩]
  have e3:(l.take i).foldl (λx q=>x * f q%P) 1 * f q%P=(l.take (i+1)).foldl (λx q=>x * f q%P) 1:=by rw[fH hq,nY];rfl
  rw[MD eacc (kp.out.2.2 q hm),e2,e3] at c2;clear hX hq e2 e3 eacc hm;generalize (l.take i).foldl (λx q=>x * f q%P) 1=acc at *
  generalize Fm:(l.take (i+1)).foldl (λx q=>x * f q%P) 1=yx at *
  have kA:=aj.mk Fm;clear Fm;generalize f q=fq at *
  unfold im at *
  refine cY @Pz @a8 @kj.{0} ?_;exact⟨l.length - (i+1),by omega,i+1,by omega,rfl,by first|exact kX2|trivial,by simp[kA.out]⟩
 ·have:i=l.length:=by omega
  subst this;rw[fA] at g5;refine br @Pz ?_;exact⟨_,_,rfl,kX.out,rfl⟩
def alH(g:FuncId)(first aB:List AV)(f:Int->Nat)(h:ak)(x:AV)(l:List Int)(hx:IL x l)(hl:l.length<=1000000)(he:∀q∈l,elem (f q)=ah)
 (hp:∀q∈l,∀H,Ext h H->∃H',W5.call g (first++[im q]++aB) H=aa (.ret (im (f q:Nat)),H')/\Ext H H'):
 ∃r h',W5.call 71 [x,.func (.func g) first aB] h=aa (r,h')/\Ext h h'/\r=.ret (im ((l.foldl (λx q=>x * f q%P) 1:Nat):Int)):=by
 obtain⟨k,s,rfl,hs⟩:=hx;have kp:=aj.mk (ar hp (ar hs he));clear hp hs he;have u23:=dJ;have z3:=fP;have cH:=dn l;unfold im;refine df rfl Tryz.func71 rfl ?_;refine br @PW ?_;refine cq (λm e H=>∃i:Nat,i<=l.length/\m=l.length - i/\aj (Ext h H)/\e.get 1=.func (.func g) first aB/\e.get 5=.v (.int .i64 (((l.take i).foldl (λx q=>x * f q%P) 1:Nat):Int))/\e.get 8=.list k s (ints l)/\e.get 9=.v (.int .i64 (l.length:Nat))/\e.get 10=.v (.int .i64 (i:Nat))/\e.defers=[]) ?_ l.length _ _ ?_;rotate_left 1
 ·refine⟨0,cr _,rfl,⟨.refl _⟩,?_,?_,?_,?_,?_,?_⟩<;>exact gR
 rintro m e H ⟨i,hi,rfl,kX,g1,g5,g8,g9,g10,hd⟩;by_cases aA:i<l.length
 ·have bB:s=1:=kp.out.2.1 (by intro q;rw[q] at aA;simp at aA);subst bB;have hq:l[i]?=aa (ai l i):=by rw[aO aA,fI aA]
  have hm:=de hq;have ld:=e7 (H:=H) (s:=1) aA;generalize ai l i=q at *
  obtain⟨H',hc,hX⟩:=kp.out.1 q hm H kX.out;unfold im at hc;have kX2:=aj.mk (kX.out.trans hX);have fL:(i:Int)<(l.length:Int):=by omega
  have eacc:elem ((l.take i).foldl (λx q=>x * f q%P) 1)=ah:=Bx (λp hp=>kp.out.2.2 p (oa hp)) yK;have c2:=CQ (((l.take i).foldl (λx q=>x * f q%P) 1:Nat):Int) ((f q:Nat):Int);have e2:mO (((l.take i).foldl (λx q=>x * f q%P) 1:Nat):Int) ((f q:Nat):Int)=0:=by unfold mO;rw[aF ⟨rZ eacc,rZ (kp.out.2.2 q hm)⟩]
  have e3:(l.take i).foldl (λx q=>x * f q%P) 1 * f q%P=(l.take (i+1)).foldl (λx q=>x * f q%P) 1:=by rw[fH hq,nY];rfl
  rw[MD eacc (kp.out.2.2 q hm),e2,e3] at c2;clear hX hq e2 e3 eacc hm;generalize (l.take i).foldl (λx q=>x * f q%P) 1=acc at *
  generalize Fm:(l.take (i+1)).foldl (λx q=>x * f q%P) 1=yx at *
  have kA:=aj.mk Fm;clear Fm;generalize f q=fq at *
  unfold im at *
  refine cY @PW @a8 @kj.{0} ?_;exact⟨l.length - (i+1),by omega,i+1,by omega,rfl,by first|exact kX2|trivial,by simp[kA.out]⟩
 ·have:i=l.length:=by omega
  subst this;rw[fA] at g5;refine br @PW ?_;exact⟨_,_,rfl,kX.out,rfl⟩
def zC:Tryz.f111.results.toList=[.tmp 2]:=au
def aov:Tryz.f161.results.toList=[.tmp 2]:=au
def Yl:Tryz.f49.results.toList=[.tmp 4]:=au
def Ke:Tryz.f70.results.toList=[.tmp 4]:=au
def uf{b}:gQ al 27 (.ptr (.box b) 0) 0=aa (.ptr (.box b) 0):=au
def gd{b}:gQ al 27 (.ptr (.box b) 0) 1=aa (.ptr (.box b) 1):=au
def jk{b}:gQ al 27 (.ptr (.box b) 0) 2=aa (.ptr (.box b) 3):=au
def yN{b}:gQ al 25 (.ptr (.box b) 1) 0=aa (.ptr (.box b) 1):=au
def afM{b}:gQ al 25 (.ptr (.box b) 1) 1=aa (.ptr (.box b) 2):=au
def qh:(∀b,gQ al 98 (.ptr (.box b) 0) 0=aa (.ptr (.box b) 0))/\(∀b,gQ al 98 (.ptr (.box b) 0) 1=aa (.ptr (.box b) 4))/\(∀b,gQ al 98 (.ptr (.box b) 0) 2=aa (.ptr (.box b) 5))/\(∀b,gQ al 98 (.ptr (.box b) 0) 3=aa (.ptr (.box b) 6))/\
 (∀b,gQ al 98 (.ptr (.box b) 0) 4=aa (.ptr (.box b) 7))/\(∀b,gQ al 98 (.ptr (.box b) 0) 5=aa (.ptr (.box b) 11))/\∀b,gQ al 98 (.ptr (.box b) 0) 6=aa (.ptr (.box b) 12):=
 ⟨λ_=>au,λ_=>au,λ_=>au,λ_=>au,λ_=>au,λ_=>au,λ_=>au⟩
def Tj{b}:gQ al 96 (.ptr (.box b) 7) 3=aa (.ptr (.box b) 10):=au
def iP:(∀b,gQ al 85 (.ptr (.box b) 0) 0=aa (.ptr (.box b) 0))/\(∀b,gQ al 85 (.ptr (.box b) 0) 1=aa (.ptr (.box b) 1))/\(∀b,gQ al 85 (.ptr (.box b) 0) 2=aa (.ptr (.box b) 2))/\∀b,gQ al 85 (.ptr (.box b) 0) 3=aa (.ptr (.box b) 3):=
 ⟨λ_=>au,λ_=>au,λ_=>au,λ_=>au⟩
def dg{H}{t}{b j}{cs}{x}(ha:gx al t=aa av)(hb:H.boxes[b]?=aa cs)(hj:cs[j]?=aa x):aI al Gt H t (.ptr (.box b) j)=aa x:=by rw[lP ha hb,List.head?_drop,hj]
def abU:gx al 28=aa av:=au
def RR:gx al 29=aa av:=au
def vh:gx al 90=aa av:=au
def aV(ep:Int)(X Y C:AV):List AV:=[.v (.int .i64 ep),X,Y,C]
def gN(ep:Int)(X Y C T L Wt All:AV)(pt ch:Int):List AV:=[.v (.int .i64 ep),X,Y,C,T,L,Wt,.v (.int .i64 3),.v (.int .i64 0),sv [],All,.v (.int .i64 pt),.v (.int .i64 ch)]
def jS(ae:List (List Int))(ep:Int)(ao:List Int):Bool:=decide (0<=ep)&&decide (ep<=64)&&decide (ao.length=bU ae)&&ao.all bE
def ar2(n)(h):W5.call 161 [im n] h=aa (.ret (.v (.bool (!bE n))),h):=by
 have c:=Hn n;unfold im at *
 refine cC rfl Tryz.func161 rfl ?_;exact lG @aov
def vS{ep}{X Y C}{ae}{owners ao}(hx:RL X ae)(hy:IL Y owners)(hc:IL C ao):(AV.agg (aV ep X Y C)).b8=aa (aV ep X Y C):=by obtain⟨k,s,xs,rfl,-⟩:=hx.form;obtain⟨ky,sy,rfl,-⟩:=hy;obtain⟨kc,sc,rfl,-⟩:=hc;rfl
def amR(h:ak)(ep:Int)(X Y C:AV)(ae:List (List Int))(owners ao:List Int)(hx:RL X ae)(hy:IL Y owners)(hc:IL C ao)(hl:ao.length<=1000000):
 ∃r h',W5.call 111 [.agg (aV ep X Y C)] h=aa (r,h')/\h'=h.push (aV ep X Y C)/\r=.ret (.v (.bool (jS ae ep ao))):=by
 have bx:=vS (ep:=ep) hx hy hc;have b0:=a9 h (aV ep X Y C);have l0:aI al Gt (h.push (aV ep X Y C)) 3 (.ptr (.box h.boxes.length) 0)=aa (.v (.int .i64 ep)):=dg eM b0 rfl;have l1:aI al Gt (h.push (aV ep X Y C)) 22 (.ptr (.box h.boxes.length) 1)=aa X:=dg LB b0 rfl;have l3:aI al Gt (h.push (aV ep X Y C)) 23 (.ptr (.box h.boxes.length) 3)=aa C:=dg oI b0 rfl;have ln:=hx.ej;have lc:=hc.ej;have cc:=Ih (pr:=DU) rfl rfl 161 [] (λn=> !bE n) (h.push (aV ep X Y C)) C ao hc hl (λn _=>ar2 n _);rw[RV] at cc;have kv:aj (jS ae ep ao=(decide (0<=ep)&&decide (ep<=64)&&decide (ao.length=bU ae)&&ao.all bE)):=⟨rfl⟩;generalize jS ae ep ao=res at *
 obtain⟨k,s,xs,rfl,hs,dx,dR⟩:=hx;have kk:=aj.mk (ar hs dR);have u23:=dJ;have u22:=iq;have z23:=iM;have cH:(xs.map λa=>[a]).length=ae.length:=by rw[bu];exact dx
 clear hs dR hc hy b0;have kcols:aj (ae.length=0->bU ae=1):=⟨λq=>by unfold bU;rw[aF q]⟩;have kcols2:aj (∀r0,ae[0]?=aa r0->bU ae=r0.length):=⟨λr0 q=>by unfold bU;rw[aG (by have:=(aP.1 q).1;omega),dP,q];rfl⟩;refine df rfl Tryz.func111 rfl ?_;have fin:∀n:Nat,bU ae=n->aj (res=(decide (0<=ep)&&decide (ep<=64)&&decide (ao.length=n)&&ao.all bE)):=λn q=>⟨by rw[kv.out,q]⟩;have fV:=aj.mk fin;clear fin;rcases EN ae.length with h0|h0
 ·have hq:¬((0:Int)<(ae.length:Int)):=by omega
  have kf:=fV.out _ (kcols.out h0);clear h0;clear kcols kcols2 fV kv;by_cases h1:0<=ep;rotate_left 1
  ·have d1:decide (0<=ep)=av:=cI h1;have kr:aj (res=av):=⟨by rw[kf.out,d1];rfl⟩;clear h1 cc;refine bJ @zC @bL @uf (ar @gd (ar @jk (ar @yN @a8))) ?_;exact⟨_,_,rfl,rfl,by rw[kr.out]⟩
  have d1:decide (0<=ep)=ah:=bX h1;by_cases h2:ep<=64;rotate_left 1
  ·have d2:decide (ep<=64)=av:=cI h2;have kr:aj (res=av):=⟨by rw[kf.out,d2];simp⟩;clear h1 h2 cc;refine bJ @zC @bL @uf (ar @gd (ar @jk (ar @yN @a8))) ?_;exact⟨_,_,rfl,rfl,by rw[kr.out]⟩
  have d2:decide (ep<=64)=ah:=bX h2;by_cases h3:ao.length=1;rotate_left 1
  ·have d3:decide ((ao.length:Int)=1)=av:=cI ag;have kr:aj (res=av):=⟨by rw[kf.out,cI h3];simp⟩;clear h1 h2 h3 cc;refine bJ @zC @bL @uf (ar @gd (ar @jk (ar @yN @a8))) ?_;exact⟨_,_,rfl,rfl,by rw[kr.out]⟩
  have d3:decide ((ao.length:Int)=1)=ah:=bX ag;have kr:aj (res=ao.all bE):=⟨by rw[kf.out,d1,d2,bX h3];rfl⟩;have FO:(!!ao.all bE)=ao.all bE:=by simp
  clear h1 h2 h3;refine bJ @zC @bL @uf (ar @gd (ar @jk (ar @yN @a8))) ?_;exact⟨_,_,rfl,rfl,by rw[kr.out]⟩
 ·have hq:((0:Int)<(ae.length:Int)):=by omega
  have bB:s=1:=kk.out.1 (by intro q;rw[q] at h0;simp at h0);subst bB;obtain⟨a0,fJ⟩:∃a,xs[0]?=aa a:=⟨_,aO ag⟩;obtain⟨r0,fM⟩:∃r,ae[0]?=aa r:=⟨_,aO ag⟩;have ld0:=jY (H:=h.push (aV ep (.list k 1 (xs.map λa=>[a])) Y C)) (s:=1) fJ;obtain⟨ka0,sa0,rfl,oR⟩:=kk.out.2 0 a0 r0 fJ fM;have kf:=fV.out _ (kcols2.out r0 fM);have cO:=dn r0;have z0:(0:Int).toNat=0:=rfl;generalize r0.length=N at *
  clear fJ fM oR h0;clear kcols kcols2 fV kv;by_cases h1:0<=ep;rotate_left 1
  ·have d1:decide (0<=ep)=av:=cI h1;have kr:aj (res=av):=⟨by rw[kf.out,d1];rfl⟩;clear h1 cc;refine bJ @zC @bL @uf (ar @gd (ar @jk (ar @yN @a8))) ?_;exact⟨_,_,rfl,rfl,by rw[kr.out]⟩
  have d1:decide (0<=ep)=ah:=bX h1;by_cases h2:ep<=64;rotate_left 1
  ·have d2:decide (ep<=64)=av:=cI h2;have kr:aj (res=av):=⟨by rw[kf.out,d2];simp⟩;clear h1 h2 cc;refine bJ @zC @bL @uf (ar @gd (ar @jk (ar @yN @a8))) ?_;exact⟨_,_,rfl,rfl,by rw[kr.out]⟩
  have d2:decide (ep<=64)=ah:=bX h2;by_cases h3:ao.length=N;rotate_left 1
  ·have d3:decide ((ao.length:Int)=(N:Int))=av:=cI ag;have kr:aj (res=av):=⟨by rw[kf.out,cI h3];simp⟩;clear h1 h2 h3 cc;refine bJ @zC @bL @uf (ar @gd (ar @jk (ar @yN @a8))) ?_;exact⟨_,_,rfl,rfl,by rw[kr.out]⟩
  have d3:decide ((ao.length:Int)=(N:Int))=ah:=bX ag;have kr:aj (res=ao.all bE):=⟨by rw[kf.out,d1,d2,bX h3];rfl⟩;have FO:(!!ao.all bE)=ao.all bE:=by simp
  clear h1 h2 h3;refine bJ @zC @bL @uf (ar @gd (ar @jk (ar @yN @a8))) ?_;exact⟨_,_,rfl,rfl,by rw[kr.out]⟩
structure tW(H:ak)(c:Nat)(ep:Int)(X Y C T L Wt:AV)(pt ch:Int)(ao:List Int)(text:List UInt8)(l:List Pr):Prop where
 dT:∃(b:Nat) (ae:List (List AV)),H.boxes[c]?=aa (gN ep X Y C T L Wt (.arr b 0 ae.length ae.length) pt ch)/\H.boxes[b]?=aa ae.flatten/\ng (l.map Pr.val) ae
 Mg:IL C ao
 pos:0<ao.length
 c0:0<=ai ao 0/\ai ao 0<=4611686018427387903
 fh:∃kt st,T=.list kt st (aW text)/\(text≠[]->st=1)
 tl:text.length<=65536
 ll:l.length<=64
def tW.mono{H H'}{c}{ep}{X Y C T L Wt}{pt ch}{ao}{text}{l}(w:tW H c ep X Y C T L Wt pt ch ao text l)(x:Ext H H'):tW H' c ep X Y C T L Wt pt ch ao text l:=by obtain⟨b,ae,h1,h2,h3⟩:=w.dT;exact⟨⟨b,ae,x.box _ _ h1,x.box _ _ h2,h3⟩,w.Mg,w.pos,w.c0,w.fh,w.tl,w.ll⟩
def Zt(l:List Pr):gF (l.map Pr.val)<=1:=by
 induction l with
 |nil=>simp[gF]|cons p l ih=>
  rw[eo,gF];have:fT p.val=1:=by simp[Pr.val,fT,gF]
  omega
def ar0(p:Pr):(dt p.val).length<=100:=by
 have h0:=nw 9 (0+1+1+1+1);have h1:=nw 9 (j9 p.az);have h2:=nw 9 (j9 p.no);have h3:=nw 9 (j9 p.d);have h4:=nw 9 (j9 p.e);simp only[Pr.val,dt,iE,iW,dk,jI] at *
 omega
def Zv:∀l:List Pr,(iE (l.map Pr.val)).length<=l.length * 100
 | []=>by simp[iE]
 |p::l=>by have h1:=ar0 p;have h2:=Zv l;rw[eo,iE,dk,iW,gg];omega
def Sg(c0)(text)(l)(k):(dt (.list [.int c0,.text text,sP l,.int k])).length<=100+text.length+l.length * 100:=by
 have h0:=nw 9 (0+1+1+1+1);have h1:=nw 9 (j9 c0);have h2:=nw 9 text.length;have h3:=nw 9 (j9 k);have h4:=nw 9 (l.map Pr.val).length;have h5:=Zv l;simp only[sP,dt,iE,iW,dk,jI] at *
 omega
def LX(t u v w)(x y z q):fC al 180 4 [(0,.iface t x),(1,.iface u y),(2,.iface v z),(3,.iface w q)]=aa (.list .tight 1 [[.iface t x],[.iface u y],[.iface v z],[.iface w q]]):=au
def LS(H:ak)(c:Nat)(ep:Int)(X Y C T L Wt:AV)(pt ch:Int)(ao:List Int)(text:List UInt8)(l:List Pr)(w:tW H c ep X Y C T L Wt pt ch ao text l)(q:Pr)(hk:0<=q.az/\q.az<=4611686018427387903):
 ∃r H',W5.call 49 [.ptr (.box c) 0,.agg (bF q)] H=aa (r,H')/\H'=H.push (bF q)/\r=.ret (im ((eC (ai ao 0) text l q.az:Nat):Int)):=by
 have w2:=w.mono (.push H (bF q));obtain⟨b,ae,h1,h2,h3⟩:=w2.dT;obtain⟨kc,sc,rfl,tB⟩:=w.Mg;obtain⟨kt,st,rfl,bZ⟩:=w.fh;have jW:=w.pos;have N3:sc=1:=tB (by intro e;rw[e] at jW;simp at jW);subst N3;have eR:ae.length<=64:=by have:=h3.1;rw[bu] at this;have:=w.ll;omega
 have bl:=Sg (ai ao 0) text l q.az;have hd:=Zt l;have hh:=Up (H.push (bF q)) BD .tight 1 [.iface 3 (.v (.int .i64 (ai ao 0))),.iface 28 (.list kt st (aW text)),.iface 96 (.agg (im 3::im 0::sv []::[.arr b 0 ae.length ae.length])),.iface 3 (.v (.int .i64 q.az))] [.int (ai ao 0),.text text,sP l,.int q.az]
  (.cons (.int _ w.c0) (.cons (.text kt st text bZ (by have:=w.tl;omega)) (.cons (.list h2 h3 ag) (.cons (.int _ hk) .nil)))) (λ_=>rfl) bh aK (by simp[sP,fT,gF];omega) (by have:=w.tl;have:=w.ll;omega)
 have vB:si BD (.list [.int (ai ao 0),.text text,sP l,.int q.az])=eC (ai ao 0) text l q.az:=rfl;rw[vB] at hh;rw[show BD=[98,105,110,100] from rfl] at hh;generalize eC (ai ao 0) text l q.az=bn at *
 have b0:=a9 H (bF q);have l0:aI al Gt (H.push (bF q)) 3 (.ptr (.box H.boxes.length) 0)=aa (.v (.int .i64 q.az)):=dg eM b0 rfl;have l1:aI al Gt (H.push (bF q)) 23 (.ptr (.box c) 3)=aa (.list kc 1 (ints ao)):=dg oI h1 rfl;have l2:aI al Gt (H.push (bF q)) 28 (.ptr (.box c) 4)=aa (.list kt st (aW text)):=dg abU h1 rfl;have l3:aI al Gt (H.push (bF q)) 96 (.ptr (.box c) 7)=aa (.agg [im 3,im 0,sv [],.arr b 0 ae.length ae.length]):=by rw[ja LD oY h1 (lW rfl)];rfl
 have l4:=e7 (H:=H.push (bF q)) (l:=ao) (i:=0) (s:=1) jW;have bc:(AV.agg (bF q)).b8=aa (bF q):=rfl;have cH:=dn ao;have u23:=dJ;have z3:=fP;have I9:(0:Int)<(ao.length:Int):=by omega
 have z0:(0:Int).toNat=0:=rfl;simp only[eo,tR] at hh;clear w w2 h1 h2 h3 tB bZ vB bl hd b0 jW;generalize ai ao 0=c0 at *
 unfold im at *
 refine df rfl Tryz.func49 rfl ?_;refine bM @Yl @bL ?_;refine ey ku au ?_;refine bJ @Yl @qh @jk (ar @iP (ar @a8 (ar @Gb (ar @Og (ar @aim @LX))))) ?_;exact⟨_,_,rfl,rfl,rfl⟩
def acV(c0)(text)(l)(k):okF ((eC c0 text l k:Nat):Int):=Ur _ _
def Wy(H:ak)(c:Nat)(ep:Int)(X Y C T L Wt:AV)(pt ch:Int)(ao:List Int)(text:List UInt8)(l:List Pr)(w:tW H c ep X Y C T L Wt pt ch ao text l)(q:Pr)(hk:0<=q.az/\q.az<=4611686018427387903)(hd:bE q.d=ah)(he:bE q.e=ah):
 ∃r H',W5.call 70 [.ptr (.box c) 0,.agg (bF q)] H=aa (r,H')/\Ext H H'/\r=.ret (im ((jC (ai ao 0) text l q:Nat):Int)):=by
 obtain⟨_,H2,c1,rfl,rfl⟩:=LS (H.push (bF q)) c ep X Y C T L Wt pt ch ao text l (w.mono (.push _ _)) q hk;have hb:=acV (ai ao 0) text l q.az;have c2:=Gv q.e ((eC (ai ao 0) text l q.az:Nat):Int);have c3:=CQ q.d (fU q.e ((eC (ai ao 0) text l q.az:Nat):Int));have hN:jB q.d (fU q.e ((eC (ai ao 0) text l q.az:Nat):Int))=((jC (ai ao 0) text l q:Nat):Int):=by rw[AJ hd (yJ he _),tj he];unfold jC;rw[dL];unfold eC;rw[JI]
 rw[hN] at c3;generalize jC (ai ao 0) text l q=nn at *
 generalize ((eC (ai ao 0) text l q.az:Nat):Int)=bn at *
 generalize fU q.e bn=pw at *
 have b0:=a9 H (bF q);have b1:((H.push (bF q)).push (bF q)).boxes[H.boxes.length]?=aa (bF q):=bg b0;have l0:aI al Gt (H.push (bF q)) 3 (.ptr (.box H.boxes.length) 2)=aa (.v (.int .i64 q.d)):=dg eM b0 rfl;have l1:aI al Gt (H.push (bF q)) 3 (.ptr (.box H.boxes.length) 3)=aa (.v (.int .i64 q.e)):=dg eM b0 rfl;have l2:=vU b0;have l0b:aI al Gt ((H.push (bF q)).push (bF q)) 3 (.ptr (.box H.boxes.length) 2)=aa (.v (.int .i64 q.d)):=dg eM b1 rfl;have l1b:aI al Gt ((H.push (bF q)).push (bF q)) 3 (.ptr (.box H.boxes.length) 3)=aa (.v (.int .i64 q.e)):=dg eM b1 rfl;have bc:(AV.agg (bF q)).b8=aa (bF q):=rfl;clear w hb hN b0 b1;unfold im at *
 refine df rfl Tryz.func70 rfl ?_;refine bM @Ke @bL ?_;refine mW [(1,6),(3,6)] ku au (λp hp=>?_) ?_
 ·simp only[gO,tT,or_false] at hp;rcases hp with rfl|rfl
  ·refine zH (x:=.ptr (.box H.boxes.length) 2) (v:=.v (.int .i64 q.d)) au rfl rfl rfl au (by simp[eT,mj]) ?_ ?_<;>(simp only[hJ,fB];exact sf @Ke @iP @and_self)
  ·refine zH (x:=.ptr (.box H.boxes.length) 3) (v:=.v (.int .i64 q.e)) au rfl rfl rfl au (by simp[eT,mj]) ?_ ?_<;>(simp only[hJ,fB];exact sf @Ke @iP @and_self)
 refine bM @Ke @iP ?_;exact⟨_,_,rfl,(Ext.push _ _).trans (Ext.push _ _),rfl⟩
end Go.Proofs.YtnfciiiohoafaaaGreatDoor
end
section
set_option linter.constructorNameAsVariable false
namespace Go.Proofs.YtnfciiiohoafaaaGreatDoor
open Go.AE Go.NT
def ny:Tryz.f48.results.toList=[.tmp 6,.tmp 7]:=au
def yq(H:ak)(c base:Nat)(cur:AV)(vs:List Vl):Prop:=(vs=[]/\cur=.list .nil 0 [])∨(vs≠[]/\∃(b:Nat) (ae:List (List AV)),cur=.arr b 0 ae.length ae.length/\H.boxes[b]?=aa ae.flatten/\ng vs ae/\b≠c/\base<=b)
def yq.ej{H}{c base}{cur}{vs}(q:yq H c base cur vs):ej al 94 cur=aa (.v (.int .i64 (vs.length:Nat))):=by
 have u94:=oH;unfold Go.AE.ej;rw[u94];rcases q with⟨rfl,rfl⟩|⟨-,b,ae,rfl,-,h3,-⟩
 ·rfl
 ·simp only[h3.1]
def yq.dN{H}{c base}{cur}{vs}(q:yq H c base cur vs):cur.dN=ah:=by rcases q with⟨rfl,rfl⟩|⟨-,b,ae,rfl,-⟩<;>rfl
def rO:List AV:=aH 0 0 [] .nil 0 []
def ng.four{vs}{ae}(h:ng vs ae):∀r∈ae,r.length=4:=λr hr=>by obtain⟨i,hi⟩:=s8 hr;have cH:=(aP.1 hi).1;exact(h.2 i _ r (aO (by rw[<-h.1];exact cH)) hi).len
def ng.snoc{vs}{ae}(h:ng vs ae){v}{r}(hv:cG v r):ng (vs++[v]) (ae++[r]):=by
 refine⟨by simp[h.1],λi w x hw hx=>?_⟩;rcases dI i ae.length with aA|dM
 ·rw[qM aA] at hx;rw[qM (by rw[<-h.1];exact aA)] at hw;exact h.2 i w x hw hx
 ·have:=(aP.1 hx).1;rw[dk] at this;have he:i=ae.length:=by simp at this;omega
  subst he;rw[EC] at hx;rw[h.1,EC] at hw;injection hx with hx;injection hw with hw;subst hx;subst hw;exact hv
def yq.more{h0 H}{c base}{cur}{vs}(q:yq H c base cur vs)(hx:Ext h0 H)(xl:h0.boxes.length<=base)(hc:c<H.boxes.length)(js:base<=H.boxes.length)(hl:vs.length<1000000){v}{r}(hv:cG v r):
 ∃H2,qI al H #[94,94] cur (.list .tight 4 [rO])=aa (.arr H.boxes.length 0 (vs.length+1) (vs.length+1),H2)/\H2.boxes.length=H.boxes.length+1/\H2.tn=H.tn/\H2.dead=H.dead/\Ext h0 H2/\
  dy al 94 (.arr H.boxes.length 0 (vs.length+1) (vs.length+1)) (.v (.int .i64 (vs.length:Nat)))=aa (.ptr (.box H.boxes.length) (vs.length * 4))/\
  (∀(a:Nat) (cs:List AV),H.boxes[a]?=aa cs->(a<base∨a=c)->H2.boxes[a]?=aa cs)/\
  ∃cs,ct al H2 96 (.ptr (.box H.boxes.length) (vs.length * 4)) (.agg r)=aa (H2.put H.boxes.length cs)/\
  ∀H3,H3.boxes[H.boxes.length]?=aa cs->yq H3 c base (.arr H.boxes.length 0 (vs.length+1) (vs.length+1)) (vs++[v]):=by
 obtain⟨i,q1,q2,q3,q4⟩:=VQ;have tu:=pg (ag:vs.length+1<=1000000) q3;have u94:=oH;have tA:=hv.len;have US:dy al 94 (.arr H.boxes.length 0 (vs.length+1) (vs.length+1)) (.v (.int .i64 (vs.length:Nat)))=aa (.ptr (.box H.boxes.length) (vs.length * 4)):=by unfold dy;simp only[u94,oY];rw[aF ⟨ag,by omega⟩];simp
 rcases q with⟨rfl,rfl⟩|⟨bH,b,ae,rfl,h1,h2,h3,h4⟩
 ·have:=Kz (h:=H) (k:=.nil) (sz:=0) (es:=[]) (new:=[rO]) (x:=.list .tight 4 [rO]) oH oH q1 ag (by rw[q2];exact q4) bh (by simp;omega) bh (.inr rfl) (.inl rfl) (by rw[q2];rfl);refine⟨_,this,cK _ _,rfl,rfl,hx.trans (.push _ _),US,λa cs ha _=>bg ha,r,?_,λH3 h3=>.inr ⟨bh,H.boxes.length,[r],rfl,by rw[h3];simp,ng.snoc (vs:=[]) (ae:=[]) ⟨rfl,λi v r q=>by simp at q⟩ hv,by omega,js⟩⟩;have hg:(H.push ([]++[rO]).flatten).boxes[H.boxes.length]?=aa rO:=a9 _ _;exact(gL (off:=0) (cs:=rO) (xs:=r) hv.cells oY hg tA (aJ 4)).trans (by rw[wx (by rw[tA];rfl)])
 ·have hf:=mM h2.four;have iR:=h2.1;have jW:0<ae.length:=by rw[iR];exact List.length_pos_iff.2 bH
  rw[<-iR] at tu;have:=Qu (h:=H) (b:=b) (len:=ae.length) (cs:=ae.flatten) (new:=[rO]) (x:=.list .tight 4 [rO]) oH oH q1 ag (by rw[q2];exact q4) bh (by simp;omega) (by simp;omega) h1 jW (by rw[q2,hf]) (by rw[q2];rfl);have aA:=(aP.1 h1).1;rw[show ae.length+[rO].length=vs.length+1 by simp[iR]] at this;refine⟨_,this,by rw[cK,mh],rfl,rfl,(hx.fO ag _).trans (.push _ _),US,λa cs ha FU=>bg ((cS ?_).trans ha),(ae++[r]).flatten,?_,λH3 h5=>.inr ⟨bh,H.boxes.length,ae++[r],by simp[iR],h5,h2.snoc hv,by omega,js⟩⟩
  ·rcases FU with z|z
   ·omega
   ·rintro rfl;exact h3 z
  ·have hg:((H.put b []).push (ae.flatten++[rO].flatten)).boxes[H.boxes.length]?=aa (ae.flatten++[rO].flatten):=mB (by rw[mh]);refine(gL (off:=vs.length * 4) (xs:=r) hv.cells oY hg tA ?_).trans ?_
   ·rw[dk,hf,iR];exact aJ _
   ·have kL:eE (ae.flatten++[rO].flatten) (vs.length * 4) r=(ae++[r]).flatten:=(by unfold eE;rw[tA,<-iR,<-hf,HL rfl,pc (by rw[dk];exact aJ _),jH];simp);rw[kL]
def ajz:∃h',W4.call 112 [.list .nil 0 []] ⟨[],[],0,[]⟩=aa (.ret (.agg (aH 3 0 [] .nil 0 [])),h'):=by obtain⟨r,h',c,-,t,sz,ae,rfl,-,-,hn⟩:=OE ⟨[],[],0,[]⟩ uG .nil 0 [] [] .nil (λq=>absurd rfl q) bh (λa ha=>by cases ha);obtain⟨rfl,rfl,rfl⟩:=hn rfl;rw[tR] at c;exact⟨h',c⟩
def ajk:∀h,W5.call 112 [.list .nil 0 []] h=aa (.ret (.agg (aH 3 0 [] .nil 0 [])),h):=by obtain⟨h',c⟩:=ajz;exact gJ (L:=L5) (cd:=[.list .nil 0 []]) aK (by rw[bV,bV,aC,bR,eH];intro n q;cases q) aK c (by rfl) aK
end Go.Proofs.YtnfciiiohoafaaaGreatDoor
end
section
namespace Go.AE
section
variable {P:Program} {G:Nat->Option (List AV)} {prims:FuncId->Option (List AV->ak->Option (AV × ak))} {Q:Xt->Env->ak->Prop} {e:Env} {h:ak} {L:List FuncId} {R:Rec}
def akJ{ops:Array Oper}{i n bi bn x1 x2:Nat}{o1 o2:Oper}{t1 t2:TypeId}{a1 a2 v1 v2:Operand}(hn:ops.size - 1=n)(U6:ops[i]?=aa o1)(Vk:o1.op=.store t1 a1 v1)(ho2:ops[n]?=aa o2)(Vm:o2.op=.store t2 a2 v2)
 (h1:cB P G R ops (ops.toList.take i) e h (λq ei _=>q=.normal/\ei.eval a1=.ptr (.box bi) x1))
 (h2:cB P G R ops (ops.toList.take n) e h (λq en _=>q=.normal/\en.eval a2=.ptr (.box bn) x2)) (bH:bi≠bn):rJ P G R ops e h i=ah:=by
 subst hn;have hi:i<ops.size:=(Array.getElem?_eq_some_iff.1 U6).1;obtain⟨q1,ei,Nf,e1,rfl,e2⟩:=h1;obtain⟨q2,en,vK,f1,rfl,f2⟩:=h2;rw[<-rH (Nat.le_of_lt hi)] at e1;rw[<-rH ag] at f1;unfold rJ;have p1:qA ops i ei=aa bi:=by unfold qA;rw[U6];simp only[Vk,e2]
 have p2:qA ops (ops.size - 1) en=aa bn:=by unfold qA;rw[ho2];simp only[Vm,f2]
 simp only[e1,f1,p1,p2];cases hq:jq bi bn with|false=>rfl|true=>exact absurd (jw hq) bH
def apd{id:Nat}{ops:Array Oper}(i:Nat)(hL:o8 prims L)(hi:Nat.blt i ops.size=ah)(bA:DQ ops i=ah)(hd:CH (gi ops i (ops.size - 1)) (Mb P (gi ops i (ops.size - 1)) L) []=ah)
 (om:rJ P G (whole P G prims) ops e h i=ah) (hr:cB P G (whole P G prims) ops ops.toList e h (wW Q)):bG (whole P G prims) (.region id ops ah) e h Q:=by
 have hi:i<ops.size:=by simpa [Nat.blt_eq] using hi
 have fG:=hr;obtain⟨o,en,hn,h1,h2⟩:=fG;cases o with
 |normal=>
  have ec:cV P G (whole P G prims) (gi ops i (ops.size - 1)) (bO (gi ops i (ops.size - 1)).size) e h=aa (.normal,en,hn):=by rw[rf,Bv,rH (aJ _),<-Array.length_toList,fA];exact h1
  exact run_draw_stores (stores_of hi bA om (Mr hd (λk hk=>SD hL ec (List.mem_filter.1 hk).2) (λp hp=>nomatch hp))) hr
 |_=>exact h2.elim
def an5{Post:Bool->ak->Prop}{H:ak}{l:Nat}{rec:ij}{args:List AV}(hr:H.loops[l]?=aa rec)(hs:rec.params.size=args.length)(bZ:rec.state=.ready)(hp:rec.pending=aq)
 (ha:bG (whole P G prims) rec.assign (nx l rec args) H (λo e1 h1=>o=.normal/\h1=H/\bG (whole P G prims) rec.body e1 (H.busy l rec) (λo _ h2=>h2.loops[l]?=aa {rec with state:=.busy}/\
  ((o=.normal/\Post ah (h2.eW l rec))∨(o=.ret/\Post av (h2.eW l {rec with state:=.done,pending:=aa .ret})))))):
 ∃b H',(whole P G prims).round l args H=aa (.ret (.v (.bool b)),H')/\Post b H':=by
 obtain⟨o,e1,h1,q1,rfl,rfl,o2,e2,h2,q2,q3,q4⟩:=ha;have zk:{rec with state:=LoopState.ready,pending:=aq}=rec:=by cases rec;cases bZ;cases hp;rfl
 rcases q4 with⟨rfl,q4⟩|⟨rfl,q4⟩
 ·refine⟨ah,_,JS hr hs ⟨_,e1,h1,q1,rfl,rec,hr,bZ,.normal,e2,h2,q2,{rec with state:=.busy},q3,rfl,rfl⟩,?_⟩;show Post ah (h2.eW l {rec with state:=LoopState.ready,pending:=aq});rw[zk];exact q4
 ·exact⟨av,_,JS hr hs ⟨_,e1,h1,q1,rfl,rec,hr,bZ,.ret,e2,h2,q2,{rec with state:=.busy},q3,rfl,rfl⟩,q4⟩
end
end Go.AE
end
section
namespace Go.Proofs.YtnfciiiohoafaaaGreatDoor
open Go.AE Go.NT
def acz(ep)(k1 k2 k3 k4 k5)(s1 s2 s3 s4 s5)(e1 e2 e3 e4 e5):
 mw al 98 [(0,.agg (aV ep (.list k1 s1 e1) (.list k2 s2 e2) (.list k3 s3 e3))),(1,.list k4 s4 e4),(2,.list k5 s5 e5),(4,.agg (aH 3 0 [] .nil 0 []))]=aa (.agg (gN ep (.list k1 s1 e1) (.list k2 s2 e2) (.list k3 s3 e3) (.list k4 s4 e4) (.list k5 s5 e5) (.list .nil 0 []) (.list .nil 0 []) 0 0)):=au
def BL(x:AV)(b:List UInt8):Prop:=∃k s,x=.list k s (aW b)/\(b≠[]->s=1)
def arO(b):(aW b).length=b.length:=bu _
def BL.ej{x}{b}(h:BL x b):ej al 28 x=aa (.v (.int .i64 (b.length:Nat))):=by obtain⟨k,s,rfl,-⟩:=h;have u28:=iO;unfold Go.AE.ej;rw[u28];simp only[arO]
def PL.ix{x}{l}(h:PL x l){i}(hi:i<l.length):dy al 29 x (.v (.int .i64 (i:Nat)))=aa (.elem 4 (eS l) i 0):=by obtain⟨k,s,rfl,hs⟩:=h;have bB:s=4:=hs (by intro q;rw[q] at hi;simp at hi);subst bB;have:=a8 (k:=k) (kk:=.i64) (es:=eS l) (a:=((i:Nat):Int)) wS sU ag (by rw[xV];omega);rw[this,dL]
def IL.ix{x}{l}(h:IL x l){i}(hi:i<l.length):dy al 23 x (.v (.int .i64 (i:Nat)))=aa (.elem 1 (ints l) i 0):=by obtain⟨k,s,rfl,hs⟩:=h;have bB:s=1:=hs (by intro q;rw[q] at hi;simp at hi);subst bB;have:=a8 (k:=k) (kk:=.i64) (es:=ints l) (a:=((i:Nat):Int)) dJ fP ag (by rw[dn];omega);rw[this,dL]
structure BI(h H:ak)(ep:Int)(X Y C T L:AV)(kb c:Nat)(cur:AV)(vs:List Vl)(t:Tok):Prop where
 ext:Ext h H
 ok:cA H=ah
 can:dj h.tn H t
 key:H.boxes[kb]?=aa (aV ep X Y C)
 work:H.boxes[c]?=aa (gN ep X Y C T L (.list .nil 0 []) cur 0 0)
 la:yq H c (c+1) cur vs
 lo:h.boxes.length<=kb
 lt:kb<c
def BI.push{h H}{ep}{X Y C T L}{kb c}{cur}{vs}{t}(b:BI h H ep X Y C T L kb c cur vs t)(cs):BI h (H.push cs) ep X Y C T L kb c cur vs t:=by
 refine⟨b.ext.trans (.push _ _),b.ok,by rw[CA];exact b.can,bg b.key,bg b.work,?_,b.lo,b.lt⟩;rcases b.la with q|⟨q,x,ae,q1,q2,q3⟩
 ·exact .inl q
 ·exact .inr ⟨q,x,ae,q1,bg q2,q3⟩
def BI.app{h H}{ep}{X Y C T L}{kb c}{cur}{vs}{t}(b:BI h H ep X Y C T L kb c cur vs t):BI h (H.app t) ep X Y C T L kb c cur vs (.free H.tn):=by
 have gr:=Grown.one b.can b.ok b.ext.tn;refine⟨gr.ext b.ext (aJ _),gr.ok,gr.can,by rw[eu];exact b.key,by rw[eu];exact b.work,?_,b.lo,b.lt⟩;rcases b.la with q|⟨q,x,ae,q1,q2,q3⟩
 ·exact .inl q
 ·exact .inr ⟨q,x,ae,q1,by rw[eu];exact q2,q3⟩
def BI.Mf{h H}{ep}{X Y C T L}{kb c}{cur}{vs}{t}(b:BI h H ep X Y C T L kb c cur vs t):c<H.boxes.length:=(aP.1 b.work).1
def aq5{H}{c}{ep}{X Y C T L Wt cur x}{pt ch}(hb:H.boxes[c]?=aa (gN ep X Y C T L Wt cur pt ch))(hx:x.b8=aa [x]):ct al H 94 (.ptr (.box c) 10) x=aa (H.put c (gN ep X Y C T L Wt x pt ch)):=
 gL (off:=10) (cs:=gN ep X Y C T L Wt cur pt ch) (xs:=[x]) hx au hb rfl (lW rfl)
def aq4{H}{c}{ep}{X Y C T L Wt cur x}{pt ch}(hb:H.boxes[c]?=aa (gN ep X Y C T L Wt cur pt ch))(hx:x.b8=aa [x]):ct al H 23 (.ptr (.box c) 6) x=aa (H.put c (gN ep X Y C T L x cur pt ch)):=
 gL (off:=6) (cs:=gN ep X Y C T L Wt cur pt ch) (xs:=[x]) hx iM hb rfl (lW rfl)
def aq7{H}{c}{ep}{X Y C T L Wt cur}{pt ch n}(hb:H.boxes[c]?=aa (gN ep X Y C T L Wt cur pt ch)):ct al H 3 (.ptr (.box c) 11) (.v (.int .i64 n))=aa (H.put c (gN ep X Y C T L Wt cur n ch)):=
 gL (off:=11) (cs:=gN ep X Y C T L Wt cur pt ch) (xs:=[.v (.int .i64 n)]) rfl fP hb rfl (lW rfl)
def aq6{H}{c}{ep}{X Y C T L Wt cur}{pt ch n}(hb:H.boxes[c]?=aa (gN ep X Y C T L Wt cur pt ch)):ct al H 3 (.ptr (.box c) 12) (.v (.int .i64 n))=aa (H.put c (gN ep X Y C T L Wt cur pt n)):=
 gL (off:=12) (cs:=gN ep X Y C T L Wt cur pt ch) (xs:=[.v (.int .i64 n)]) rfl fP hb rfl (lW rfl)
def Sj:fC al 94 1 [(0,.agg [uF (Value.int .i64 0),uF (Value.int .i64 0),uF (Value.string (bs [])),uF (Value.slice aq 0 0)])]=aa (.list .tight 4 [rO]):=au
def BI.next{h H}{ep}{X Y C T L}{kb c}{cur}{vs}{t}(b:BI h H ep X Y C T L kb c cur vs t)(hl:vs.length<1000000){v}{r}(hv:cG v r):
 ∃H2 cs,qI al H #[94,94] cur (.list .tight 4 [rO])=aa (.arr H.boxes.length 0 (vs.length+1) (vs.length+1),H2)/\
  dy al 94 (.arr H.boxes.length 0 (vs.length+1) (vs.length+1)) (.v (.int .i64 (vs.length:Nat)))=aa (.ptr (.box H.boxes.length) (vs.length * 4))/\
  ct al H2 96 (.ptr (.box H.boxes.length) (vs.length * 4)) (.agg r)=aa (H2.put H.boxes.length cs)/\
  ct al (H2.put H.boxes.length cs) 94 (.ptr (.box c) 10) (.arr H.boxes.length 0 (vs.length+1) (vs.length+1))=aa ((H2.put H.boxes.length cs).put c (gN ep X Y C T L (.list .nil 0 []) (.arr H.boxes.length 0 (vs.length+1) (vs.length+1)) 0 0))/\
  BI h ((H2.put H.boxes.length cs).put c (gN ep X Y C T L (.list .nil 0 []) (.arr H.boxes.length 0 (vs.length+1) (vs.length+1)) 0 0)) ep X Y C T L kb c (.arr H.boxes.length 0 (vs.length+1) (vs.length+1)) (vs++[v]) t:=by
 have hc:=b.Mf;have pI:=b.lo;have aA:=b.lt;obtain⟨H2,q1,q2,q3,q4,q5,q6,q7,cs,q8,q9⟩:=b.la.more b.ext ag hc ag hl hv;have hw:(H2.put H.boxes.length cs).boxes[c]?=aa (gN ep X Y C T L (.list .nil 0 []) cur 0 0):=by rw[cS ag];exact q7 c _ b.work (.inr rfl)
 have hk:((H2.put H.boxes.length cs).put c (gN ep X Y C T L (.list .nil 0 []) (.arr H.boxes.length 0 (vs.length+1) (vs.length+1)) 0 0)).boxes[kb]?=aa (aV ep X Y C):=by rw[cS ag,cS ag];exact q7 kb _ b.key (.inl ag)
 refine⟨H2,cs,q1,q6,q8,aq5 hw rfl,(q5.fO (by have:=b.ext.len;omega) _).fO ag _,?_,?_,hk,ev (by rw[mh];omega),?_,pI,aA⟩
 ·have:=b.ok;unfold cA at *
  show H2.dead.all (λn=>decide (n<H2.tn))=ah;rw[q3,q4];exact this
 ·have:=b.can;rw[CB,CB];rcases this with z|z|⟨m,z,z2,z3⟩
  ·exact .inl z
  ·exact .inr (.inl z)
  ·refine .inr (.inr ⟨m,z,z2,?_⟩);unfold alive at *
   rw[q3,q4];exact z3
 ·refine q9 _ ?_;rw[cS ag];exact ev (by rw[q2];omega)
def akN(p:Pr)(h:∀x∈[p.az,p.no,p.d,p.e],0<=x/\x<=4611686018427387903):∃r,cG p.val r/\∀H,W5.call 112 [.list .tight 1 [[.iface 3 (.v (.int .i64 p.az))],[.iface 3 (.v (.int .i64 p.no))],[.iface 3 (.v (.int .i64 p.d))],[.iface 3 (.v (.int .i64 p.e))]]] H=aa (.ret (.agg r),H):=by
 have:=ajj .tight 1 [.iface 3 (.v (.int .i64 p.az)),.iface 3 (.v (.int .i64 p.no)),.iface 3 (.v (.int .i64 p.d)),.iface 3 (.v (.int .i64 p.e))] [.int p.az,.int p.no,.int p.d,.int p.e]
  (.cons (.int _ (h _ bh)) (.cons (.int _ (h _ bh)) (.cons (.int _ (h _ bh)) (.cons (.int _ (h _ bh)) .nil)))) (λ_=>rfl) bh
 simp only[eo,tR] at this;exact this
end Go.Proofs.YtnfciiiohoafaaaGreatDoor
end
