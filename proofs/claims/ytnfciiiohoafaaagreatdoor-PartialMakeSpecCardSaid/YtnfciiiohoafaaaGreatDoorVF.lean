/-
  The engine, part 51: a function that gives a number and takes lists whose cells may lie in boxes: for the call these boxes are lists.
-/
import Derived.Test.YtnfciiiohoafaaaGreatDoorVE
import Derived.Test.YtnfciiiohoafaaaGreatDoorVD
open True renaming intro->aX
open Go renaming FuncId->bm
open Go.Proofs.Tryz renaming prog->aq,underlying23->dN,func157->acQ,underlying22->ir,func59->ac0,underlying28->jv,underlying94->py,underlying180->ac1,func158->acR,underlying29->uO
open Option renaming none->ar,some->aa,map_some->eW
open Bool renaming false->az,true->ai,and_eq_true->bL,true_and->oc,false_and->xG
open Nat renaming zero_le->cG,reduceEqDiff->aZ,add_mul->gI,le_refl->aM,beq->jG,ble->MD,eq_of_beq_eq_true->jP,le_of_ble_eq_true->jZ,mul_le_mul->p7,lt_or_ge->dV,succ_ne_zero->SI,eq_zero_or_pos->FT,mul_one->oo
open List renaming getElem?_eq_getElem->aT,mem_of_getElem?->dn,any_append->Mm,any_eq_true->FE,cons_append->lN,take_length->fI,range->bR,range_succ->nH,foldl_append->oM,any_cons->abQ,all_cons->FD,length_map->bE,getD_eq_getElem?_getD->dS,all_eq_true->ej,mem_range->gB,length_nil->jY,all_eq_false->C8,flatten_append->qM,mem_map->ju,length_take->fj,flatten_cons->oL,length_cons->jn,mem_cons->iq,mem_cons_self->gj,mem_cons_of_mem->fN,getElem?_eq_some_iff->aV,getElem?_take->oh,getElem?_drop->oN,mem_of_mem_take->oO,nil_append->mC,getElem?_append_left->rK,length_append->dE,getElem?_concat_length->FH,getElem?_map->ev,take_of_length_le->gO,replicate->bg,take_append_drop->xR,mem_flatten->Mu,not_mem_nil->uM,take_left'->I4,drop_of_length_le->pZ,append_nil->jX,getElem?_of_mem->tT,map_cons->eK,ext_getElem?->qL,getElem?_eq_none->tS,getElem?_range->FI,map_nil->uK,getElem_mem->iG,find?_append->Mn,take_succ_cons->gl,take_zero->fm
open And renaming intro->av
open Int renaming sub_zero->C7,natCast_zero->sQ,toNat_natCast->dK
set_option maxHeartbeats 64000000
set_option maxRecDepth 100000
set_option linter.unusedSimpArgs false
set_option linter.unusedVariables false
set_option linter.constructorNameAsVariable false
set_option linter.defProp false
section
namespace Go.Proofs.YtnfciiiohoafaaaGreatDoor
open Go.AE Go.NT
section
variable {pr:bm->Option (List AV->ao->Option (AV × ao))}
def QW:Tryz.f159.results.toList=[.tmp 4]:=aw
def akb(G9:pr 167=ar)(g:bm)(aC:List AV)(p:Int->Bool)(h:ao)(x:AV)(l:List Int)(hx:IL x l)(hl:l.length<=1000000)(hp:∀n∈l,(whole aq Gt pr).call g (im n::aC) h=aa (.ret (.v (.bool (p n))),h)):
 ∃r h',(whole Tryz.prog Gt pr).call 167 [x,.func (.func g) [] aC] h=some (r,h')/\h'=h/\∃i:Int,r=.ret (im i)/\decide (0<=i)=l.any p:=by
 obtain⟨k,s,rfl,hs⟩:=hx;have kp:=al.mk hp;have ks:=al.mk hs;clear hp hs;have u23:=dN;have z3:=fH;have cK:=dp l;refine da G9 Tryz.func167 rfl ?_;refine bI @AJ ?_;refine cE (λm e H=>∃i:Nat,i<=l.length/\m=l.length - i/\(l.take i).any p=az/\e.get 0=.list k s (ints l)/\e.get 1=.func (.func g) [] aC/\e.get 7=.v (.int .i64 (l.length:Nat))/\e.get 8=.v (.int .i64 (i:Nat))/\e.defers=[]/\H=h) ?_ l.length _ _ ?_;rotate_left 1
 ·refine⟨0,cG _,rfl,by simp,?_,?_,?_,?_,?_,rfl⟩<;>exact gR
 rintro m e H ⟨i,hi,rfl,ha,g0,g1,g7,g8,hd,rfl⟩;have ka:=al.mk ha;clear ha;by_cases aB:i<l.length
 ·have bF:s=1:=ks.out (by intro q;rw[q] at aB;simp at aB);subst bF;have ld:=e7 (H:=H) (s:=1) aB;have hv:l[i]?=aa (ak l i):=by rw[aT aB,ga aB]
  have hc:=kp.out (ak l i) (dn hv);have fA:(i:Int)<(l.length:Int):=by omega
  have pM:(l.take (i+1)).any p=p (ak l i):=by rw[fW hv,Mm,ka.out];simp
  have kt:=al.mk pM;have kh:=al.mk hv;clear hv pM;unfold im at hc;cases fG:p (ak l i) with
  |true=>rw[fG] at hc;have mg:l.any p=ai:=FE.2 ⟨_,dn kh.out,fG⟩;have kan:=al.mk mg;clear mg fG;refine cR @AJ @a9 @lN.{0} ?_;exact⟨_,_,rfl,rfl,(i:Int),rfl,by rw[kan.out];simp⟩
  |false=>rw[fG] at hc;have kt2:(l.take (i+1)).any p=az:=kt.out.trans fG;clear fG;refine cR @AJ @a9 @lN.{0} ?_;exact⟨l.length - (i+1),by omega,i+1,by omega,rfl,kt2,by simp⟩
 ·have:i=l.length:=by omega
  subst this;have:=ka.out;rw[fI] at this;have kan:=al.mk this;clear this;refine bI @AJ ?_;exact⟨_,_,rfl,rfl,-1,rfl,by rw[kan.out];rfl⟩
def Jr(aiG:pr 167=ar)(aiF:pr 126=ar)(g:bm)(aC:List AV)(p:Int->Bool)(h:ao)(x:AV)(l:List Int)(hx:IL x l)(hl:l.length<=1000000)(hp:∀n∈l,(whole aq Gt pr).call g (im n::aC) h=aa (.ret (.v (.bool (p n))),h)):
 (whole aq Gt pr).call 126 [x,.func (.func g) [] aC] h=aa (.ret (.v (.bool (l.any p))),h):=by
 obtain⟨r,h',c,rfl,i,rfl,hi⟩:=akb aiG g aC p h x l hx hl hp;have DW:decide (0<=i)=l.any p:=hi;unfold im at c;refine cL aiF Tryz.func126 rfl ?_;clear hi hp;exact lP @ZH
def as8(G9:pr 159=ar)(zY:∀a b h,(whole aq Gt pr).call 28 [im a,im b] h=aa (.ret (im (cQ a b)),h))(g:bm)(aC:List AV)(f:Nat->Int)(h:ao)(x:AV)(l:List Int)(hx:IL x l)(hl:l.length<=1000000)
 (hp:∀i,i<l.length->(whole aq Gt pr).call g (im (i:Nat)::im (ak l i)::aC) h=aa (.ret (im (f i)),h)):
 ∃h',(whole aq Gt pr).call 159 [x,.func (.func g) [] aC] h=aa (.ret (im ((bR l.length).foldl (λx j=>cQ x (f j)) 0)),h')/\h'=h:=by
 obtain⟨k,s,rfl,hs⟩:=hx;have kp:=al.mk (av hp hs);clear hp hs;have u23:=dN;have z3:=fH;have cK:=dp l;unfold im;refine iu G9 Tryz.func159 rfl ?_;refine bI @QW ?_;refine cE (λm e H=>∃i:Nat,i<=l.length/\m=l.length - i/\e.get 1=.func (.func g) [] aC/\e.get 4=.v (.int .i64 ((bR i).foldl (λx j=>cQ x (f j)) 0))/\e.get 7=.list k s (ints l)/\e.get 8=.v (.int .i64 (l.length:Nat))/\e.get 9=.v (.int .i64 (i:Nat))/\e.defers=[]/\H=h) ?_ l.length _ _ ?_;rotate_left 1
 ·refine⟨0,cG _,rfl,?_,?_,?_,?_,?_,?_,rfl⟩<;>exact gR
 rintro m e H ⟨i,hi,rfl,g1,g4,g7,g8,g9,hd,rfl⟩;by_cases aB:i<l.length
 ·have bF:s=1:=kp.out.2 (by intro q;rw[q] at aB;simp at aB);subst bF;have ld:=e7 (H:=H) (s:=1) aB;have hc:=kp.out.1 i aB;have ha:=λv=>zY v (f i) H;have fA:(i:Int)<(l.length:Int):=by omega
  have ct:cQ ((bR i).foldl (λx j=>cQ x (f j)) 0) (f i)=(bR (i+1)).foldl (λx j=>cQ x (f j)) 0:=by rw[nH,oM];rfl
  have kst:=al.mk ct;clear ct;generalize (bR i).foldl (λx j=>cQ x (f j)) 0=acc at *
  unfold im at hc ha;refine cR @QW @a9 @lN.{0} ?_;exact⟨l.length - (i+1),by omega,i+1,by omega,rfl,by trivial,by rw[kst.out],by simp⟩
 ·have:i=l.length:=by omega
  subst this;refine bI @QW ?_;exact⟨_,rfl,rfl⟩
end
def ZO:Tryz.f157.results.toList=[.tmp 2]:=aw
def ap9:Tryz.f107.results.toList=[.tmp 2]:=aw
def ZG:Tryz.f108.results.toList=[.tmp 2]:=aw
def aqa:Tryz.f110.results.toList=[.tmp 4]:=aw
def aqn:Tryz.f160.results.toList=[.tmp 5]:=aw
def aqr:Tryz.f168.results.toList=[.tmp 2]:=aw
def K8:Tryz.f129.results.toList=[.tmp 4]:=aw
def QT:Tryz.f130.results.toList=[.tmp 4]:=aw
def aqL:Tryz.f57.results.toList=[.tmp 4]:=aw
def aqS:Tryz.f77.results.toList=[.tmp 4]:=aw
def anl(x n)(h):W4.call 57 [im x,im n] h=aa (.ret (im (ft x n)),h):=by
 have c:=NY x n;unfold im at *
 refine cL rfl Tryz.func57 rfl ?_;exact lP @aqL
def ann(x n)(h):W4.call 77 [im x,im n] h=aa (.ret (im (ft x n)),h):=by
 have c:=NY x n;unfold im at *
 refine cL rfl Tryz.func77 rfl ?_;exact lP @aqS
def alX(n):qA n= !cU n:=by
 unfold qA cU Qi;by_cases h0:n<0
 ·rw[cz h0,cT (ah:¬0<=n)];rfl
 ·by_cases h1:1073741789<=n
  ·rw[cT h0,cz h1,cz (ah:0<=n),cT (ah:¬n<1073741789)];rfl
  ·rw[cT h0,cT h1,cz (ah:0<=n),cz (ah:n<1073741789)];rfl
def alV(n)(h):W4.call 157 [im n] h=aa (.ret (.v (.bool (qA n))),h):=by
 unfold im qA;by_cases h0:n<0
 ·refine cL rfl acQ rfl ?_;have:decide (n<0)=ai:=by simp[h0]
  exact jI @ZO @Bool.true_or
 ·refine cL rfl acQ rfl ?_;have:decide (n<0)=az:=by simp[h0]
  exact jI @ZO @Bool.false_or
def Tk(l:List Int):(!l.any qA)=l.all cU:=by
 induction l with
 |nil=>rfl|cons a l ih=>rw[abQ,FD,<-ih,alX];simp
def Yw(x)(l)(hx:IL x l)(hl:l.length<=1000000)(h):W4.call 107 [x] h=aa (.ret (.v (.bool (l.all cU))),h):=by have c:=Jr (pr:=EN) rfl rfl 157 [] qA h x l hx hl (λn _=>alV n h);have hv:(!l.any qA)=l.all cU:=Tk l;refine cL rfl Tryz.func107 rfl ?_;clear hx;exact lP @ap9
def Ur(h:ao)(x y:AV)(ae:List (List Int))(ag:List Int)(hx:RL x ae)(hy:IL y ag):∃h',W4.call 108 [.agg [x,y]] h=aa (.ret (.v (.int .i64 (b9 ae:Nat))),h')/\h'=h.push [x,y]:=by
 obtain⟨k,s,xs,rfl,hs,dB,eg⟩:=hx;have bx:(AV.agg [.list k s (xs.map λa=>[a]),y]).cD=aa [.list k s (xs.map λa=>[a]),y]:=by obtain⟨ky,sy,rfl,-⟩:=hy;rfl
 have l0:=pO (bh h [.list k s (xs.map λa=>[a]),y]);have u23:=dN;have u22:=ir;have z23:=iW;have cK:(xs.map λa=>[a]).length=ae.length:=by rw[bE];exact dB
 refine iu rfl Tryz.func108 rfl ?_;by_cases h0:ae.length=0
 ·have hq:(ae.length:Int)=0:=by omega
  have hc:b9 ae=1:=by unfold b9;rw[aG h0]
  rw[hc];clear h0 eg hs dB hc;refine cR @ZG @bB @dw ?_;exact⟨_,rfl,rfl⟩
 ·have hq:¬((ae.length:Int)=0):=by omega
  obtain⟨a0,gf⟩:∃a,xs[0]?=aa a:=⟨_,aT ah⟩;obtain⟨r0,gg⟩:∃r,ae[0]?=aa r:=⟨_,aT ah⟩;have bF:s=1:=hs (by intro q;rw[q] at h0;simp at h0);subst bF;have ld0:=lh (H:=h.push [.list k 1 (xs.map λa=>[a]),y]) (s:=1) gf;obtain⟨ka0,sa0,rfl,pK⟩:=eg 0 a0 r0 gf gg;have hc:b9 ae=r0.length:=by unfold b9;rw[aH h0,dS,gg];rfl
  rw[hc];have cS:=dp r0;have yi:(0:Int)<(ae.length:Int):=by omega
  have z0:(0:Int).toNat=0:=rfl;clear h0 eg hs dB hc gf gg pK;refine bG @ZG @bB @dw @a9 ?_;exact⟨_,rfl,rfl⟩
def atB(h:ao)(b i:Nat)(n:Int)(y:AV)(l:List Int)(hb:h.boxes[b]?=aa [y])(hy:IL y l)(hi:i<l.length):W4.call 160 [im (i:Nat),im n,.ptr (.box b) 0] h=aa (.ret (im (bX n (ak l i))),h):=by
 obtain⟨k,s,rfl,hs⟩:=hy;have bF:s=1:=hs (by intro q;rw[q] at hi;simp at hi);subst bF;have l1:=vw hb;have ld:=e7 (H:=h) (s:=1) hi;have u23:=dN;have z3:=fH;have cK:=dp l;have hiI:(i:Int)<(l.length:Int):=by omega
 have c:=Ym n (ak l i);unfold im at *
 clear hs hb;refine cL rfl Tryz.func160 rfl ?_;exact jI @aqn @a9
def atz(h:ao)(x y:AV)(a b:List Int)(hx:IL x a)(hy:IL y b)(hl:a.length<=1000000)(DS:a.length<=b.length):∃h',W4.call 110 [x,y] h=aa (.ret (im (qh a b)),h')/\h'=h.push [y]:=by
 obtain⟨_,c,rfl⟩:=as8 (pr:=EN) rfl (λa b h=>Tb a b h) 160 [.ptr (.box h.boxes.length) 0] (λi=>bX (ak a i) (ak b i)) (h.push [y]) x a hx hl (λi hi=>atB (h.push [y]) h.boxes.length i (ak a i) y b (bh _ _) hy ah);have cy:y.cD=aa [y]:=by obtain⟨k,s,rfl,-⟩:=hy;rfl
 have e:(bR a.length).foldl (λx j=>cQ x (bX (ak a j) (ak b j))) 0=qh a b:=rfl;rw[e] at c;unfold im at *
 clear hx hy e;refine iu rfl Tryz.func110 rfl ?_;refine bV @aqa @bB ?_;exact⟨_,rfl,rfl⟩
def at1(n)(h):W4.call 168 [im n] h=aa (.ret (.v (.bool (!bN n))),h):=by
 have c:=aa6 n;unfold im at *
 refine cL rfl Tryz.func168 rfl ?_;exact lP @aqr
def Tj(p)(l:List Int):(l.any λn=> !p n)= !l.all p:=by
 induction l with
 |nil=>rfl|cons a l ih=>rw[abQ,FD,ih];simp
def nC:Tryz.f115.results.toList=[.tmp 2]:=aw
def anU(h:ao)(x y:AV)(ae:List (List Int))(ag:List Int)(hx:RL x ae)(hy:IL y ag)(cS:ae.length<=1000000):
 ∃r h',W4.call 115 [.agg [x,y]] h=aa (r,h')/\h'=h.push [x,y]/\r=.ret (.v (.int .i64 (de ae ag))):=by
 obtain⟨k,s,xs,rfl,hs,dB,eg⟩:=hx;obtain⟨ky,sy,rfl,jL⟩:=hy;have kk:=al.mk (av hs (av eg jL));clear hs eg jL;have u23:=dN;have u22:=ir;have z23:=iW;have z3:=fH;have cK:(xs.map λa=>[a]).length=ae.length:=by rw[bE];exact dB
 have oY:=dp ag;have b0:(h.push [.list k s (xs.map λa=>[a]),.list ky sy (ints ag)]).boxes[h.boxes.length]?=aa [.list k s (xs.map λa=>[a]),.list ky sy (ints ag)]:=bh _ _;have l0:=pO b0;have l1:=Cn b0;have bx:(AV.agg [.list k s (xs.map λa=>[a]),.list ky sy (ints ag)]).cD=aa [.list k s (xs.map λa=>[a]),.list ky sy (ints ag)]:=rfl;clear b0;have k1:al (64<ae.length->de ae ag=2):=⟨λq=>by unfold de;rw[aG (by simp[q])]⟩;have k2:al (∀(i:Nat) r,ae[i]?=aa r->64<r.length->de ae ag=2):=⟨λi r hr q=>by unfold de;rw[aG];rw[Bool.or_eq_true];exact .inr (FE.2 ⟨r,dn hr,by simp[q]⟩)⟩;have k3:al (ae.length<=64->(ae.any λr=>decide (64<r.length))=az->ae.length≠ag.length->de ae ag=230):=⟨λq1 q2 q3=>by unfold de;rw[aH (by rw[q2];simp;omega),aG q3]⟩;have k4:al (ae.length<=64->(ae.any λr=>decide (64<r.length))=az->ae.length=ag.length->de ae ag=if ((bR ae.length).all (sZ ae ag))=ai then (0:Int) else 230):=⟨λq1 q2 q3=>by unfold de;rw[aH (by rw[q2];simp;omega),aH (by simpa using q3)];rfl⟩;generalize de ae ag=res at *
 obtain⟨H,hH⟩:∃H,h.push [.list k s (xs.map λa=>[a]),.list ky sy (ints ag)]=H:=⟨_,rfl⟩;rw[hH] at l0 l1;rw[hH];refine da rfl Tryz.func115 rfl ?_;by_cases h1:64<ae.length
 ·have hq:((64:Int)<(ae.length:Int)):=by omega
  have kr:=al.mk (k1.out h1);clear h1;refine bG @nC @dw @eG (av @bB @hH) ?_;exact⟨_,_,rfl,rfl,by rw[kr.out]⟩
 have hq:¬((64:Int)<(ae.length:Int)):=by omega
 have JN:ae.length<=64:=by omega
 refine bG @nC @dw @eG (av @bB @hH) ?_;refine bM.gen λe0 aF bD cN cH=>?_;have f1:e0.get 1=.ptr (.box h.boxes.length) 0:=by rw[aF];exact gS
 have f3:e0.get 3=.v (.int .i64 (0:Nat)):=by rw[aF];exact gR
 have fd:e0.defers=[]:=by rw[bD];exact gS
 clear aF bD cN cH bx hq h1 hH;refine cE (λm e H2=>∃i:Nat,i<=ae.length/\m=ae.length - i/\al (((ae.take i).any λr=>decide (64<r.length))=az)/\e.get 1=.ptr (.box h.boxes.length) 0/\e.get 3=.v (.int .i64 (i:Nat))/\e.defers=[]/\H2=H) ?_ ae.length _ _ ?_;rotate_left 1
 ·exact⟨0,cG _,rfl,⟨bH⟩,f1,f3,fd,rfl⟩
 clear f1 f3 fd;rintro m e H ⟨i,hi,rfl,kt,g1,g3,hd,rfl⟩;by_cases aB:i<ae.length
 ·have bF:s=1:=kk.out.1 (by intro q;rw[q] at aB;simp at aB);subst bF;obtain⟨a,fE⟩:∃a,xs[i]?=aa a:=⟨_,aT ah⟩;obtain⟨r,hv⟩:∃r,ae[i]?=aa r:=⟨_,aT aB⟩;have ld:=lh (H:=H) (s:=1) fE;obtain⟨ka,sa,rfl,iT⟩:=kk.out.2.1 i a r fE hv;have vn:=dp r;have fA:(i:Int)<(ae.length:Int):=by omega
  by_cases hb:64<r.length
  ·have hbI:((64:Int)<(r.length:Int)):=(by omega);have kr:=al.mk (k2.out i r hv hb);clear fE hv iT hb;refine bG @nC @dw @eG @a9 ?_;exact⟨_,_,rfl,rfl,by rw[kr.out]⟩
  ·have hbI:¬((64:Int)<(r.length:Int)):=(by omega);have kt2:al (((ae.take (i+1)).any λr=>decide (64<r.length))=az):=⟨by rw[fW hv,Mm,kt.out];simp;omega⟩;clear fE hv iT hb;refine bG @nC @dw @eG @a9 ?_;exact⟨ae.length - (i+1),by omega,i+1,by omega,rfl,kt2,by simp⟩
 have gT:i=ae.length:=by omega
 subst gT;have mg:=kt.out;rw[fI] at mg;have kany:=al.mk mg;clear mg kt hi;by_cases h3:ae.length=ag.length;rotate_left 1
 ·have kr:=al.mk (k3.out JN kany.out h3);have hn:¬((ae.length:Int)=(ag.length:Int)):=by omega
  clear h3;refine cR @nC @dw @eG ?_;exact⟨_,_,rfl,rfl,by rw[kr.out]⟩
 have kres:=al.mk (k4.out JN kany.out h3);have kn:=al.mk h3;have hn:(ag.length:Int)=(ae.length:Int):=by omega
 clear h3;refine cR @nC @dw @eG ?_;refine bM.gen λe0 aF bD cN cH=>?_;have f1:e0.get 1=.ptr (.box h.boxes.length) 0:=by rw[aF];simp only[gW,reduceIte,aZ,aQ];exact g1
 have f4:e0.get 4=.v (.int .i64 (0:Nat)):=by rw[aF];exact gR
 have fd:e0.defers=[]:=by rw[bD];simp only[gW,reduceIte,aZ,aQ];exact hd
 clear aF bD cN cH g1 g3 hd aB;refine cE (λm e H2=>∃i:Nat,i<=ae.length/\m=ae.length - i/\al (∀j,j<i->sZ ae ag j=ai)/\e.get 1=.ptr (.box h.boxes.length) 0/\e.get 4=.v (.int .i64 (i:Nat))/\e.defers=[]/\H2=H) ?_ ae.length _ _ ?_;rotate_left 1
 ·exact⟨0,cG _,rfl,⟨λj hj=>absurd hj (Nat.not_lt_zero _)⟩,f1,f4,fd,rfl⟩
 clear f1 f4 fd;rintro m e H3 ⟨i,hi,rfl,kf,g1,g4,hd,rfl⟩;by_cases aB:i<ae.length;rotate_left 1
 ·have gT:i=ae.length:=by omega
  subst gT;have k0:al (res=0):=⟨by rw[kres.out,aG];rw[ej];intro j hj;exact kf.out j (gB.1 hj)⟩;refine cR @nC @dw @eG ?_;exact⟨_,_,rfl,rfl,by rw[k0.out]⟩
 have bF:s=1:=kk.out.1 (by intro q;rw[q] at aB;simp at aB);subst bF;have jr:sy=1:=kk.out.2.2 (by intro q;have h0:=kn.out;rw[q,jY] at h0;omega);subst jr;obtain⟨a,fE⟩:∃a,xs[i]?=aa a:=⟨_,aT ah⟩;obtain⟨r,hv⟩:∃r,ae[i]?=aa r:=⟨_,aT aB⟩;obtain⟨a0,gf⟩:∃a,xs[0]?=aa a:=⟨_,aT ah⟩;obtain⟨r0,gg⟩:∃r,ae[0]?=aa r:=⟨_,aT ah⟩;have ld:=lh (H:=H3) (s:=1) fE;have ld0:=lh (H:=H3) (s:=1) gf;obtain⟨ka,sa,rfl,iT⟩:=kk.out.2.1 i a r fE hv;obtain⟨ka0,sa0,rfl,pK⟩:=kk.out.2.1 0 a0 r0 gf gg;have avn:=dp r;have tB:=dp r0;have ldo:=e7 (H:=H3) (l:=ag) (i:=i) (s:=1) (by have:=kn.out;omega);have Ag:sZ ae ag i=(!r.isEmpty&&decide (r.length=r0.length)&&vH (ak ag i)&&r.all cU):=by
  unfold sZ vH;have g1:ae.getD i []=r:=by rw[dS,hv];rfl
  have g2:ae.getD 0 []=r0:=by rw[dS,gg];rfl
  rw[g1,g2]
 have gv:=al.mk Ag;have kbad:al (sZ ae ag i=az->res=230):=⟨by intro q;rw[kres.out,aH];intro z;rw[ej] at z;have:=z i (gB.2 aB);rw[q] at this;cases this⟩;have fA:(i:Int)<(ae.length:Int):=by omega
 have yi:(0:Int)<(ae.length:Int):=by omega
 have z0:(0:Int).toNat=0:=rfl;have ks:=al.mk iT;have VT:r.length<=64:=by have q:=kany.out;rw[List.any_eq_false] at q;have:=q r (dn hv);simpa using this
 clear Ag fE hv iT gf gg pK;generalize ak ag i=o at *
 by_cases e1:r.length=0
 ·have oZ:decide ((r.length:Int)<1)=ai:=cz ah;have kb:al (res=230):=⟨kbad.out (by rw[gv.out,List.length_eq_zero_iff.1 e1];rfl)⟩;clear e1;refine bG @nC @dw @eG @a9 ?_;refine dR wu aw ?_;refine bG @nC @dw @eG @a9 ?_;exact⟨_,_,rfl,rfl,by rw[kb.out]⟩
 have oZ:decide ((r.length:Int)<1)=az:=cT ah;have iI:r.isEmpty=az:=by cases r with|nil=>exact absurd rfl e1|cons _ _=>rfl
 clear e1;by_cases e2:r.length=r0.length;rotate_left 1
 ·have nQ:decide ((r.length:Int)=(r0.length:Int))=az:=cT ah;have kb:al (res=230):=⟨kbad.out (by rw[gv.out,iI,cT e2];rfl)⟩;clear e2 iI;refine bG @nC @dw @eG @a9 ?_;refine dR wu aw ?_;refine bG @nC @dw @eG @a9 ?_;exact⟨_,_,rfl,rfl,by rw[kb.out]⟩
 have nQ:decide ((r.length:Int)=(r0.length:Int))=ai:=cz ah;have ke2:=al.mk e2;clear e2;by_cases e3:o<0
 ·have WQ:decide (o<0)=ai:=cz e3;have kb:al (res=230):=⟨kbad.out (by rw[gv.out];unfold vH;rw[cT (ah:¬0<=o)];simp)⟩;clear e3 iI;refine bG @nC @dw @eG @a9 ?_;refine dR wu aw ?_;refine bG @nC @dw @eG @a9 ?_;exact⟨_,_,rfl,rfl,by rw[kb.out]⟩
 have WQ:decide (o<0)=az:=cT e3;by_cases e4:64<=o
 ·have WR:decide (64<=o)=ai:=cz e4;have kb:al (res=230):=⟨kbad.out (by rw[gv.out];unfold vH;rw[cT (ah:¬o<=63)];simp)⟩;clear e3 e4 iI;refine bG @nC @dw @eG @a9 ?_;refine dR wu aw ?_;refine bG @nC @dw @eG @a9 ?_;exact⟨_,_,rfl,rfl,by rw[kb.out]⟩
 have WR:decide (64<=o)=az:=cT e4;have kfin2:al (sZ ae ag i=r.all cU):=⟨by rw[gv.out,iI,cz ke2.out];unfold vH;rw[cz (ah:0<=o),cz (ah:o<=63)];rfl⟩;clear e3 e4 iI;refine bG @nC @dw @eG @a9 ?_;refine dR wu aw ?_;refine bG @nC @dw @eG @a9 ?_;refine bM.gen λe0 aF bD cN cH=>?_;have f1:e0.get 1=.ptr (.box h.boxes.length) 0:=by rw[aF];simp only[gW,reduceIte,aZ,aQ];exact g1
 have f4:e0.get 4=.v (.int .i64 (i:Nat)):=by rw[aF];simp only[gW,reduceIte,aZ,aQ];exact g4
 have f5:e0.get 5=.v (.int .i64 (0:Nat)):=by rw[aF];exact gR
 have fd:e0.defers=[]:=by rw[bD];simp only[gW,reduceIte,aZ,aQ];exact hd
 clear aF bD cN cH g1 g4 hd;refine cE (λm e H2=>∃j:Nat,j<=r.length/\m=r.length - j/\al ((r.take j).all cU=ai)/\e.get 1=.ptr (.box h.boxes.length) 0/\e.get 4=.v (.int .i64 (i:Nat))/\e.get 5=.v (.int .i64 (j:Nat))/\e.defers=[]/\H2=H3) ?_ r.length _ _ ?_;rotate_left 1
 ·exact⟨0,cG _,rfl,⟨bH⟩,f1,f4,f5,fd,rfl⟩
 clear f1 f4 f5 fd oZ nQ WQ WR ldo ld0;rintro m e H4 ⟨j,hj,rfl,ka4,g1,g4,g5,hd,rfl⟩;by_cases qX:j<r.length
 ·have qw:sa=1:=ks.out (by intro q;rw[q] at qX;simp at qX);subst qw;have ldx:=e7 (H:=H4) (s:=1) qX;have nA:r[j]?=aa (ak r j):=by rw[aT qX,ga qX]
  have ava:(j:Int)<(r.length:Int):=by omega
  have pM:(r.take (j+1)).all cU=cU (ak r j):=by rw[fW nA,List.all_append,ka4.out];simp
  have kt5:=al.mk (av pM (dn nA));have WS:cU (ak r j)=(decide (0<=ak r j)&&decide (ak r j<1073741789)):=rfl;have kqq:=al.mk WS;clear nA pM WS;generalize ak r j=n at *
  by_cases d1:n<0
  ·have dU:decide (n<0)=ai:=cz d1;have kb:al (res=230):=⟨kbad.out (by rw[kfin2.out,C8];exact⟨n,kt5.out.2,by rw[kqq.out,cT (ah:¬0<=n)];simp⟩)⟩;clear d1;refine bG @nC @dw @eG @a9 ?_;exact⟨_,_,rfl,rfl,by rw[kb.out]⟩
  have dU:decide (n<0)=az:=cT d1;by_cases d2:1073741789<=n
  ·have gu:decide (1073741789<=n)=ai:=cz d2;have kb:al (res=230):=⟨kbad.out (by rw[kfin2.out,C8];exact⟨n,kt5.out.2,by rw[kqq.out,cT (ah:¬n<1073741789)];simp⟩)⟩;clear d1 d2;refine bG @nC @dw @eG @a9 ?_;exact⟨_,_,rfl,rfl,by rw[kb.out]⟩
  have gu:decide (1073741789<=n)=az:=cT d2;have kt2:al ((r.take (j+1)).all cU=ai):=⟨by rw[kt5.out.1,kqq.out,cz (ah:0<=n),cz (ah:n<1073741789)];rfl⟩;clear d1 d2;refine bG @nC @dw @eG @a9 ?_;exact⟨r.length - (j+1),by omega,j+1,by omega,rfl,kt2,by simp⟩
 ·have oA:j=r.length:=by omega
  subst oA;have eH:=ka4.out;rw[fI] at eH;have kf2:al (∀j,j<i+1->sZ ae ag j=ai):=⟨λj hj=>by
   rcases Nat.lt_succ_iff_lt_or_eq.1 hj with q|q
   ·exact kf.out j q
   ·rw[q,kfin2.out];exact eH⟩
  clear eH;refine bG @nC @dw @eG @a9 ?_;exact⟨ae.length - (i+1),by omega,i+1,by omega,rfl,kf2,by simp⟩
end Go.Proofs.YtnfciiiohoafaaaGreatDoor
end
section
namespace Go.AE
open Go.RowKit (Below)
def xm(z:Nat)(cs:List AV)(off len:Nat):List (List AV):=(bR len).map λi=>(cs.drop (off+i * z)).take z
def K3(z)(cs)(off):∀len,(xm z cs off len).flatten=(cs.drop off).take (len * z)
 |0=>by simp[xm]
 |n+1=>by
  have ih:=K3 z cs off n;unfold xm at *
  rw[nH,List.map_append,qM,ih,gI,Nat.one_mul,List.take_add,List.drop_drop];simp
def apX(z)(cs)(off len):(xm z cs off len).length=len:=by unfold xm;simp
def apY{z}{cs}{off len}(h:off+len * z<=cs.length):∀r∈xm z cs off len,r.length=z:=by intro r hr;unfold xm at hr;obtain⟨i,hi,rfl⟩:=ju.1 hr;have hi:=gB.1 hi;have:(i+1) * z<=len * z:=Nat.mul_le_mul_right _ hi;rw[gI] at this;rw[fj,List.length_drop];omega
mutual
def j9(z:Nat)(h:ao):AV->AV
 | .list k sz es=>.list (cd k) sz (qT z h es)
 | .arr b off len aC=>match h.boxes[b]? with
  |some cs=>if off+len * z<=cs.length/\0<z then .list .held z (eU (xm z cs off len)) else .arr b off len aC
  |none=>.arr b off len aC
 | .tuple cs=>.tuple (mc z h cs)
 | .agg cs=>.agg (mc z h cs)
 | .iface t x=>.iface t (j9 z h x)
 |x=>x
def mc(z:Nat)(h:ao):List AV->List AV
 | []=>[]
 |x::r=>j9 z h x::mc z h r
def qT(z:Nat)(h:ao):List (List AV)->List (List AV)
 | []=>[]
 |r::rs=>mc z h r::qT z h rs
end
section
variable {z:Nat} {h:ao}
def Vg:∀a b:List AV,mc z h (a++b)=mc z h a++mc z h b
 | [],b=>rfl
 |x::a,b=>by rw[lN,mc,Vg a b,mc,lN]
def JJ:∀es:List (List AV),(qT z h es).flatten=mc z h es.flatten
 | []=>rfl
 |r::es=>by rw[qT,oL,oL,Vg,JJ es]
def Vi:∀a:List AV,(mc z h a).length=a.length
 | []=>rfl
 |x::a=>by rw[mc,jn,Vi a,jn]
def Vj:∀a:List (List AV),(qT z h a).length=a.length
 | []=>rfl
 |x::a=>by rw[qT,jn,Vj a,jn]
def Vk{sz:Nat}:∀{es:List (List AV)},(∀r∈es,r.length=sz)->∀r∈qT z h es,r.length=sz
 | [],_,r,hr=>by cases hr
 |a::es,hh,r,hr=>by
  rw[qT] at hr;rcases iq.1 hr with rfl|hr
  ·rw[Vi];exact hh a gj
  ·exact Vk (λr hr=>hh r (fN _ hr)) r hr
def ahY(x:AV):(j9 z h x).ek=x.ek:=by
 cases x with
 |arr b off len aC=>
  rw[j9];split
  ·split<;>rfl
  ·rfl
 |_=>rfl
def Vh:∀a:List AV,(mc z h a).all AV.ek=a.all AV.ek
 | []=>rfl
 |x::a=>by rw[mc,FD,ahY,Vh a,FD]
end
section
variable {P:Program} {G:Nat->Option (List AV)} {ok:bm->Nat->Code->Bool} {w0 w w':World} {K:aY} {h:ao} {z:Nat}
def aY.still(K:aY)(w:World):aY:={K with base:=w.heap.size,β:=[],γ:=[],tn:=0,md:=[],ic:=λg j=>w.cell? ⟨g,j,ar⟩}
def Iu(s:bW K G ok w0 h w):∀g j c,K.ic g j=aa c->(K.still w).ic g j=aa c:=s.ic
mutual
def a8.nt(s:bW K G ok w0 h w):∀{x:AV} {c:Value},a8 K x c->aL 0 0 0 (j9 z h x)=ai->a8 (K.still w) (j9 z h x) c
 |_,_,.bad c,_=>.bad c
 |_,_,.v x hx,_=>.v x hx
 |_,_,.nil sz,_=>.nil sz
 |_,_,.js sz a,_=>.js sz a
 |_,_,.list k sz es g off m aC cells hn hr hv hc ht ha,hf=>by
  simp only[j9,aL,bL] at hf;have nA:=aS.nt s hv (by rw[<-JJ,s8];exact hf.2);rw[<-JJ] at nA;have tx:m=(qT z h es).length:=by rw[Vj];exact hn
  have qj:(qT z h es).flatten.all AV.ek=ai:=by rw[JJ,Vh];exact ha
  have jj:=Vk (z:=z) (h:=h) hr;have BJ:=λj c hj=>s.ic _ _ _ (hc j c hj);cases k with|nil=>exact ht.2.elim|tight=>exact .list .tight sz _ g off m aC cells tx jj nA BJ ⟨ht.1,ht.2⟩ qj|free i=>exact .list .held sz _ g off m aC cells tx jj nA BJ ⟨ht.1,aX⟩ qj|held=>exact .list .held sz _ g off m aC cells tx jj nA BJ ⟨ht.1,aX⟩ qj
 |_,_,.arr b g off len aC fC iH hb hl oU ho hr,hf=>by
  simp only[j9] at hf ⊢;cases cC:h.boxes[b]? with
  |none=>rw[cC] at hf;simp[aL] at hf|some cs=>
   rw[cC] at hf;simp only at hf ⊢;split at hf
   ·rename_i eI;rw[aG eI];obtain⟨eI,hz⟩:=eI;obtain⟨q1,q2,q3,cells,e,q4,q5⟩:=s.box b g cs hb cC;have ajv:=q5.le;by_cases h0:aC=0
    ·have:len=0:=(by omega);subst this;exact .list .held z [] g fC 0 iH [] rfl (λ_ h=>by cases h) .nil (λ_ _ h=>by simp at h) ⟨cG _,aX⟩ rfl
    ·have Ao:fC=off:=by rcases ho with p|p<;>omega
     subst Ao;have hv:aS K ((cs.drop fC).take (len * z)) (((cells.toList.take cs.length).drop fC).take (len * z)):=(q5.1.drop fC).take (len * z);have nA:=aS.mI (K2:=K.still w) (Iu s) (aS.hold hv) (by simp only[aL,bL] at hf;have:=hf.2;rw[<-s8,Ea,K3] at this;exact this);rw[<-K3,<-Ea] at nA;refine .list .held z _ g fC len iH (((cells.toList.take cs.length).drop fC).take (len * z)) (by rw[GY,apX]) (Kd (apY eI)) nA (λj c hj=>?_) ⟨ah,aX⟩ ?_
     ·have lF:j<len * z:=(by have:=(aV.1 hj).1;rw[fj] at this;omega);rw[oh,aG lF,oN,oh,aG ah] at hj;show w.cell? ⟨g,fC+j,ar⟩=aa c;rw[rW q4];simpa using hj
     ·rw[Ea,OW,K3];rw[ej] at q3 ⊢;exactλx hx=>q3 x (List.mem_of_mem_drop (oO hx))
   ·simp[aL] at hf
 |_,_,.agg cs vs hv,hf=>.agg _ vs (aS.nt s hv (by simpa only[j9,aL] using hf))
 |_,_,.tuple cs vs hv,hf=>.tuple _ vs (aS.nt s hv (by simpa only[j9,aL] using hf))
 |_,_,.box b g off hb,hf=>by simp[j9,aL] at hf
 |_,_,.eR g off,_=>.eR g off
 |_,_,.elem sz es i off g o p cells hr hv hc hi hp ha,hf=>.elem sz es i off g o p cells hr (aS.mI (Iu s) hv (by rw[s8];simpa only[j9,aL] using hf)) (λj c hj=>s.ic _ _ _ (hc j c hj)) hi hp ha
 |_,_,.func fn first aC fs cs h1 h2,hf=>by simp only[j9,aL,bL] at hf;exact .func fn first aC fs cs (aS.mI (Iu s) h1 hf.1) (aS.mI (Iu s) h2 hf.2)
 |_,_,.yield l g hl,hf=>by simp[j9,aL] at hf
 |_,_,.iface t x c hx,hf=>by simp only[j9,aL] at hf;exact .iface t _ c (a8.nt s hx hf)
def aS.nt(s:bW K G ok w0 h w):∀{xs:List AV} {cs:List Value},aS K xs cs->aW 0 0 0 (mc z h xs)=ai->aS (K.still w) (mc z h xs) cs
 |_,_,.nil,_=>.nil
 |_,_,.cons x c xs cs hx hs,hf=>by simp only[mc,aW,bL] at hf;exact .cons _ c _ cs (a8.nt s hx hf.1) (aS.nt s hs hf.2)
end
def bW.still(s:bW K G ok w0 h w)(hG:∀g cs,G g=aa cs->aW 0 0 0 cs=ai):bW (K.still w) G ok w ⟨[],[],0,[]⟩ w:=by
 refine⟨Below.refl _ _,aM _,λg j c hc=>hc,λg cs hg=>?_,rfl,λb b' g hb=>by simp[aY.still] at hb,λb g cs hb=>by simp[aY.still] at hb,rfl,λb b' g hb=>by simp[aY.still] at hb,λl g r hl=>by simp[aY.still] at hl,rfl,λt ht=>?_,λt t' ht=>?_,λr hr=>by simp[aY.still] at hr,rfl⟩
 ·obtain⟨cells,q1,q2⟩:=s.eR g cs hg;exact⟨cells,aS.mI (K1:=K) (K2:=K.still w) (Iu s) q1 (hG g cs hg),λj c hj=>s.ic _ _ _ (q2 j c hj)⟩
 ·simp[alive] at ht
 ·simp[alive] at ht
def JI(z:Nat)(R:Rec)(g:bm)(args:List AV)(h:ao):Option (AV × ao):=
 if aW 0 0 0 (mc z h args)=ai then
  match R.call g (mc z h args) ⟨[],[],0,[]⟩ with
  |some (.ret (.v y),_)=>aa (.v y,h)
  |_=>ar
 else ar
def ahZ{aN:bm->Option (List AV->ao->Option (AV × ao))}(hp:Prog P)(hG:∀g cs,G g=aa cs->aW 0 0 0 cs=ai)(oC:∀V g p,aN g=aa p->sT P G V g p){g:bm}(hY:∃fn,P.funcs[g]?=aa fn/\fn.body.isSome=ai)(V:World):
 sT P G V g (JI z (whole P G aN) g):=by
 refine⟨hY,λargs h x h' hx K w fk hv hs cs=>?_⟩;unfold JI at hx;split at hx
 ·rename_i hf;split at hx
  ·rename_i y h2 hc;injection hx with hx;injection hx with Xo sD;subst Xo;subst sD;obtain⟨-,Hg⟩:=(RW hp (oC w)).call g _ _ _ _ hc;have s0:=bW.still hs hG;obtain⟨K1,w',fr,le,s1,ct,wP,v,qx,eI⟩:=Hg (K.still w) w fk (aS.nt hs hv hf) s0 cs;have hb:Below w.heap.size w w':=(by have:=s1.dh;rwa [le.base] at this);refine⟨.returned v,w',fr,⟨v,_,rfl,aY.PT hs,?_,bW.sees hs hb⟩,ct,wP,eI⟩;cases qx with|v _ q=>exact .v _ q
  ·cases hx
 ·cases hx
def AA(z:Nat)(R:Rec)(L M:List bm)(g:bm):Option (List AV->ao->Option (AV × ao)):=if L.contains g=ai then aa (Dw R g) else if M.contains g=ai then aa (JI z R g) else ar
def alv{aN:bm->Option (List AV->ao->Option (AV × ao))}(hp:Prog P)(hG:∀g cs,G g=aa cs->aW 0 0 0 cs=ai)(oC:∀V g p,aN g=aa p->sT P G V g p){L M:List bm}(hL:∀g∈L,∃fn,P.funcs[g]?=aa fn/\fn.body.isSome=ai)(hM:∀g∈M,∃fn,P.funcs[g]?=aa fn/\fn.body.isSome=ai):
 ∀V g p,AA z (whole P G aN) L M g=some p->sT P G V g p:=by
 intro V g p he;unfold AA at he;split at he
 ·rename_i hg;injection he with he;subst he;exact TV hp hG oC (hL g (by simpa using hg)) V
 ·split at he
  ·rename_i hg;injection he with he;subst he;exact ahZ hp hG oC (hM g (by simpa using hg)) V
  ·cases he
def gH{R:Rec}{L M:List bm}{g:bm}{args cA:List AV}{x y:AV}{h1:ao}(hg:L.contains g=ai)(ha:cr args=cA)(hf:aW 0 0 0 cA=ai)(hc:R.call g cA ⟨[],[],0,[]⟩=aa (.ret y,h1))(hy:jM h1 y=x)(hx:aL 0 0 0 x=ai):
 ∀h,(whole P G (AA z R L M)).call g args h=aa (.ret x,h):=by
 intro h;subst ha;subst hy;rw[IE];unfold qU AA;rw[aG hg];simp only[Dw,Ez,aG hf,hc,aG hx,eW]
def ahX{R:Rec}{L M:List bm}{g:bm}{args cA:List AV}{y:Value}{h h1:ao}(hg:L.contains g=az)(hm:M.contains g=ai)(ha:mc z h args=cA)(hf:aW 0 0 0 cA=ai)(hc:R.call g cA ⟨[],[],0,[]⟩=aa (.ret (.v y),h1)):
 (whole P G (AA z R L M)).call g args h=aa (.ret (.v y),h):=by
 subst ha;rw[IE];unfold qU AA;rw[aH (by rw[hg];exact Bool.false_ne_true),aG hm];simp only[JI,aG hf,hc];rfl
end
end Go.AE
end
section
namespace Go.Proofs.YtnfciiiohoafaaaGreatDoor
open Go.AE Go.NT
def Z2:Tryz.f59.results.toList=[.tmp 2]:=aw
def Z0:Tryz.f42.results.toList=[.tmp 2]:=aw
def alR(n:Int)(h:ao):W4.call 59 [im n] h=aa (.ret (.v (.bool (cU n))),h):=by
 unfold im cU Qi;by_cases h0:0<=n
 ·refine cL rfl ac0 rfl ?_;have:decide (0<=n)=ai:=by simp[h0]
  exact jI @Z2 @oc
 ·refine cL rfl ac0 rfl ?_;have:decide (0<=n)=az:=by simp[h0]
  exact jI @Z2 @xG
def af6(h:ao)(x y:AV)(ae:List (List Int))(ag:List Int)(hx:RL x ae)(hy:IL y ag):∃h',W4.call 42 [.agg [x,y]] h=aa (.ret (.v (.int .i64 (b9 ae:Nat))),h')/\h'=h.push [x,y]:=by
 obtain⟨k,s,xs,rfl,hs,dB,eg⟩:=hx;have bx:(AV.agg [.list k s (xs.map λa=>[a]),y]).cD=aa [.list k s (xs.map λa=>[a]),y]:=by obtain⟨ky,sy,rfl,-⟩:=hy;rfl
 have l0:=pO (bh h [.list k s (xs.map λa=>[a]),y]);have u23:=dN;have u22:=ir;have z23:=iW;have cK:(xs.map λa=>[a]).length=ae.length:=by rw[bE];exact dB
 refine iu rfl Tryz.func42 rfl ?_;by_cases h0:ae.length=0
 ·have hq:(ae.length:Int)=0:=by omega
  have hc:b9 ae=1:=by unfold b9;rw[aG h0]
  rw[hc];clear h0 eg hs dB hc;refine cR @Z0 @bB @dw ?_;exact⟨_,rfl,rfl⟩
 ·have hq:¬((ae.length:Int)=0):=by omega
  obtain⟨a0,gf⟩:∃a,xs[0]?=aa a:=⟨_,aT ah⟩;obtain⟨r0,gg⟩:∃r,ae[0]?=aa r:=⟨_,aT ah⟩;have bF:s=1:=hs (by intro q;rw[q] at h0;simp at h0);subst bF;have ld0:=lh (H:=h.push [.list k 1 (xs.map λa=>[a]),y]) (s:=1) gf;obtain⟨ka0,sa0,rfl,pK⟩:=eg 0 a0 r0 gf gg;have hc:b9 ae=r0.length:=by unfold b9;rw[aH h0,dS,gg];rfl
  rw[hc];have cS:=dp r0;have yi:(0:Int)<(ae.length:Int):=by omega
  have z0:(0:Int).toNat=0:=rfl;clear h0 eg hs dB hc gf gg pK;refine bG @Z0 @bB @dw @a9 ?_;exact⟨_,rfl,rfl⟩
def Ui(x y)(ae)(ag)(hx:RL x ae)(hy:IL y ag):∀h,W4.call 97 [.agg [x,y]] h=aa (.ret (.v (.int .i64 (de ae ag))),h):=by obtain⟨h1,h2⟩:=hx.fb;obtain⟨h3,h4⟩:=hy.hold;exact br (L:=L4) (cA:=[.agg [aD x,aD y]]) rfl rfl (by simp[aW,aL,h2,h4]) (afI (aD x) (aD y) ae ag h1 h3 _) rfl rfl
def yb{b}:iy aq 81 (.ptr (.box b) 0) 0=aa (.ptr (.box b) 0):=aw
def yc{b}:iy aq 81 (.ptr (.box b) 0) 1=aa (.ptr (.box b) 1):=aw
def Hs{H}{b}{x y}(hb:H.boxes[b]?=aa [x,y]):aI aq Gt H 3 (.ptr (.box b) 0)=aa x:=by rw[mw fa hb];rfl
def Ht{H}{b}{x y}(hb:H.boxes[b]?=aa [x,y]):aI aq Gt H 3 (.ptr (.box b) 1)=aa y:=by rw[mw fa hb];rfl
def RL.cD{x}{ae}(h:RL x ae):x.cD=aa [x]:=by obtain⟨k,s,xs,rfl,-⟩:=h.form;rfl
def IL.cD{x}{l}(h:IL x l):x.cD=aa [x]:=by obtain⟨k,s,rfl,-⟩:=h;rfl
def pQ{x y}{ae}{ag}(hx:RL x ae)(hy:IL y ag):(AV.agg [x,y]).cD=aa [x,y]:=by obtain⟨k,s,xs,rfl,-⟩:=hx.form;obtain⟨ky,sy,rfl,-⟩:=hy;rfl
def RL.dW{x}{ae}(h:RL x ae):dW aq 22 x=aa (.v (.int .i64 (ae.length:Nat))):=by obtain⟨k,s,xs,rfl,hl⟩:=h.form;have u22:=ir;unfold Go.AE.dW;rw[u22];simp only[bE,hl]
def IL.dW{x}{l}(h:IL x l):dW aq 23 x=aa (.v (.int .i64 (l.length:Nat))):=by obtain⟨k,s,rfl,-⟩:=h;have u23:=dN;unfold Go.AE.dW;rw[u23];simp only[dp]
def jo(ae:List (List Int))(ag aj:List Int):Int:=if de ae ag≠0 then de ae ag else if decide (aj.length=b9 ae)&&aj.all bN then 0 else 340
def agJ(h:ao)(x y z:AV)(ae:List (List Int))(ag aj:List Int)(hx:RL x ae)(hy:IL y ag)(hz:IL z aj)(hl:aj.length<=1000000):
 ∃r h',W4.call 129 [.agg [x,y],z] h=aa (r,h')/\Ext h h'/\r=.ret (.v (.int .i64 (jo ae ag aj))):=by
 have bx:=pQ hx hy;have c1:=Ui x y ae ag hx hy;obtain⟨_,c2,rfl⟩:=Ur (h.push [x,y]) x y ae ag hx hy;have c3:=Jr (pr:=EN) rfl rfl 168 [] (λn=> !bN n) ((h.push [x,y]).push [x,y]) z aj hz hl (λn _=>at1 n _);have l0:=rk (bh h [x,y]);have ln:=hz.dW;have hp:∀q,q≠0->de ae ag=q->jo ae ag aj=q:=λq h1 h2=>by unfold jo;rw[aG (by rw[h2];exact h1),h2]
 have cN:de ae ag=0->jo ae ag aj=if decide (aj.length=b9 ae)&&aj.all bN then 0 else 340:=λh2=>by unfold jo;rw[aH (by simp[h2])]
 have kp:=al.mk (av hp cN);clear hp cN hx hy hz;rw[Tj] at c3;generalize jo ae ag aj=res at *
 refine da rfl Tryz.func129 rfl ?_;by_cases h0:de ae ag=0
 ·rw[h0] at c1;have k0:=kp.out.2 h0;clear h0;by_cases h1:aj.length=b9 ae
  ·have hq:decide ((aj.length:Int)=((b9 ae:Nat):Int))=ai:=cz ah;rw[cz h1,oc] at k0;clear h1;cases h2:aj.all bN with
   |true=>rw[h2] at c3 k0;have kr:=al.mk k0;clear h2 k0;refine bV @K8 @bB ?_;exact⟨_,_,rfl,(Ext.push _ _).trans (Ext.push _ _),by rw[kr.out];rfl⟩
   |false=>rw[h2] at c3 k0;have kr:=al.mk k0;clear h2 k0;refine bV @K8 @bB ?_;exact⟨_,_,rfl,(Ext.push _ _).trans (Ext.push _ _),by rw[kr.out];rfl⟩
  ·have hq:decide ((aj.length:Int)=((b9 ae:Nat):Int))=az:=cT ah;rw[cT h1,xG] at k0;have kr:=al.mk k0;clear h1 k0;refine bV @K8 @bB ?_;exact⟨_,_,rfl,(Ext.push _ _).trans (Ext.push _ _),by rw[kr.out];rfl⟩
 ·have kr:=al.mk (kp.out.1 _ h0 rfl);clear kp c2 c3;generalize de ae ag=q at *
  refine bV @K8 @bB ?_;exact⟨_,_,rfl,Ext.push _ _,by rw[kr.out]⟩
def jm(ae:List (List Int))(p:Int × Int):Bool:=decide (0<=p.1)&&decide (p.1<ae.length)&&cU p.2
def Ko(n):IL (.list .tight 1 [[.v (.int .i64 n)]]) [n]:=⟨.tight,1,rfl,λ_=>rfl⟩
def aoE(h:ao)(x y:AV)(ae:List (List Int))(ag:List Int)(hx:RL x ae)(hy:IL y ag)(a v:Int):
 ∃r h',W4.call 130 [.agg [x,y],.agg [im a,im v]] h=aa (r,h')/\Ext h h'/\r=.ret (.v (.bool (jm ae (a,v)))):=by
 have bx:=pQ hx hy;have b2:(AV.agg [im a,im v]).cD=aa [im a,im v]:=rfl;have l0:aI aq Gt ((h.push [x,y]).push [im a,im v]) 22 (.ptr (.box h.boxes.length) 0)=aa x:=pO (bA (bh h [x,y]));have l1:=Hs (bh (h.push [x,y]) [im a,im v]);have l2:=Ht (bh (h.push [x,y]) [im a,im v]);have c:=Yw (.list .tight 1 [[.v (.int .i64 v)]]) [v] (Ko v) bH ((h.push [x,y]).push [im a,im v]);rw[(bH:[v].all cU=cU v)] at c;have bl:=qa v;have ln:=hx.dW;clear hx hy;unfold jm;simp only;refine da rfl Tryz.func130 rfl ?_;unfold im at *
 by_cases h1:0<=a
 ·have d1:decide (0<=a)=ai:=cz h1;by_cases h2:a<ae.length
  ·have d2:decide (a<(ae.length:Int))=ai:=cz h2;rw[d1,d2];clear h1 h2;refine bG @QT @bB @dw (av @yb @yc) ?_;exact⟨_,_,rfl,(Ext.push _ _).trans (Ext.push _ _),rfl⟩
  ·have d2:decide (a<(ae.length:Int))=az:=cT h2;rw[d1,d2];clear h1 h2;refine bG @QT @bB @dw (av @yb @yc) ?_;exact⟨_,_,rfl,(Ext.push _ _).trans (Ext.push _ _),rfl⟩
 ·have d1:decide (0<=a)=az:=cT h1;rw[d1];clear h1;refine bG @QT @bB @dw (av @yb @yc) ?_;exact⟨_,_,rfl,(Ext.push _ _).trans (Ext.push _ _),rfl⟩
def aia(bu b)(k)(hb:b.length<=1099511620000)(ht:bu.length<=1099511620000):∀h,W3.call 78 [.v (.string (bs bu)),.list k 1 (bf b)] h=aa (.ret (im (mK (gi bu b):Nat)),h):=
 br (L:=L3) (cA:=[.v (.string (bs bu)),.list (cd k) 1 (bf b)]) rfl (by rw[cr,cr,aD.eq_1,pJ];rfl) (by simp[aW,aL,fy,jS]) (ah9 bu b _ hb ht _) rfl rfl
def Vq(bu b)(k)(hb:b.length<=1099511620000)(ht:bu.length<=1099511620000):∀h,W4.call 78 [.v (.string (bs bu)),.list k 1 (bf b)] h=aa (.ret (im (mK (gi bu b):Nat)),h):=
 br (L:=L4) (cA:=[.v (.string (bs bu)),.list (cd k) 1 (bf b)]) rfl (by rw[cr,cr,aD.eq_1,pJ];rfl) (by simp[aW,aL,fy,jS]) (aia bu b _ hb ht _) rfl rfl
def ahc{v}{r}(hv:cY v r)(hd:gq v<=16)(hl:(dI v).length<=1099511600000):∃t,∀h,W3.call 146 [.agg r] h=aa (.ret (.tuple [.list t 1 (bf (dI v)),.v (.int .i64 0)]),h):=by obtain⟨h1,h2⟩:=cY.hold v r hv;obtain⟨t,hc⟩:=ahb h1 hd hl;exact⟨cd t,br (L:=L3) (cA:=[.agg (cr r)]) rfl rfl (by simpa [aW,aL] using h2) (hc _) rfl (by simp[aL,aW,fy,jS])⟩
def UP{v}{r}(hv:cY v r)(hd:gq v<=16)(hl:(dI v).length<=1099511600000):∃t,∀h,W4.call 146 [.agg r] h=aa (.ret (.tuple [.list t 1 (bf (dI v)),.v (.int .i64 0)]),h):=by obtain⟨h1,h2⟩:=cY.hold v r hv;obtain⟨t,hc⟩:=ahc h1 hd hl;exact⟨cd t,br (L:=L4) (cA:=[.agg (cr r)]) rfl rfl (by simpa [aW,aL] using h2) (hc _) rfl (by simp[aL,aW,fy,jS])⟩
def HV:Tryz.f112.results.toList=[.cell 2 96]:=aw
def aqb:Tryz.f114.results.toList=[.tmp 4]:=aw
def Lq:Tryz.f79.results.toList=[.tmp 2]:=aw
inductive uG:AV->Vl->Prop
 |int (n:Int) (hn:0<=n/\n<=4611686018427387903):uG (.iface 3 (.v (.int .i64 n))) (.int n)
 |text (k:Tok) (s:Nat) (b:List UInt8) (hs:b≠[]->s=1) (hb:b.length<=1099511620000):uG (.iface 28 (.list k s (bf b))) (.text b)
 |val (v:Vl) (r:List AV) (h:cY v r):uG (.iface 96 (.agg r)) v
def tO(xs:List AV)(vs:List Vl):Prop:=xs.length=vs.length/\∀(i:Nat) x v,xs[i]?=aa x->vs[i]?=aa v->uG x v
def tO.nil:tO [] []:=⟨rfl,λi x v h=>by simp at h⟩
def tO.cons{x}{v}{xs}{vs}(h:uG x v)(hs:tO xs vs):tO (x::xs) (v::vs):=by
 refine⟨by simp[hs.1],λi y w hy hw=>?_⟩;cases i with|zero=>simp at hy hw;subst hy;subst hw;exact h|succ i=>simp at hy hw;exact hs.2 i y w hy hw
def Ts(x):xU aq (.iface 3 x) 3 ai=aa (.tuple [x,.v (.bool ai)]):=aw
def Tr(x):xU aq (.iface 28 x) 3 ai=aa (.tuple [.v (.int .i64 0),.v (.bool az)]):=aw
def Tq(x):xU aq (.iface 28 x) 28 ai=aa (.tuple [x,.v (.bool ai)]):=aw
def adR(x):xU aq (.iface 96 x) 3 ai=aa (.tuple [.v (.int .i64 0),.v (.bool az)]):=aw
def adQ(x):xU aq (.iface 96 x) 28 ai=aa (.tuple [.list .nil 0 [],.v (.bool az)]):=aw
def adS(x):xU aq (.iface 96 x) 96 ai=aa (.tuple [x,.v (.bool ai)]):=aw
def Js{k}{s}{b}(hs:b≠[]->s=1)(h):nm aq h 28 9 (.list k s (bf b))=aa (.v (.string (bs b)),h):=by
 have h1:aq.underlying 9=aa .string:=Tryz.underlying9;have h2:aq.underlying 28=aa (.slice 5):=jv;have h3:aq.underlying 5=aa (.int .u8):=Tryz.underlying5;unfold nm;simp only[h1,h2,h3,rowsOf];rw[aG (by
  by_cases hb:b=[]
  ·exact .inr (by rw[hb];rfl)
  ·exact .inl (hs hb))]
 have wK:∀l:List UInt8,bytesOf (bf l)=aa l:=by
  intro l
  induction l with
  |nil=>rfl|cons a l ih=>show(match Go.AE.byteOf (j8 a),bytesOf (bf l) with|some b,aa l=>aa (b::l)|_,_=>ar)=_;rw[ih];simp[Go.AE.byteOf,j8]
 simp only[wK,eW];rfl
def Bh{r}(hr:r.length=4)(hc:(AV.agg r).cD=aa r):fX aq 94 1 [(0,.agg r)]=aa (.list .tight 4 [r]):=by have h1:aq.underlying 94=aa (.slice 96):=py;unfold fX;simp only[h1,pS,xD];rw[aG ⟨aO,rfl,by decide⟩];simp[DM,hc,hr]
def Xs:∃i,aq.info? 96=aa i/\i.size=4/\i.bytes<=64/\(i.zero.map λz=>z.cells.size)=aa 4:=by
 have h:(match aq.info? 96 with|some i=>jG i.size 4&&MD i.bytes 64&&decide ((i.zero.map λz=>z.cells.size)=aa 4)|none=>az)=ai:=aw;cases hi:aq.info? 96 with
 |none=>rw[hi] at h;cases h
 |some i=>rw[hi] at h;simp only[bL,decide_eq_true_eq] at h;exact⟨i,rfl,jP h.1.1,jZ h.1.2,h.2⟩
def Be{H}{k}{n0 sz}{es}{r}(hl:es.length<1000000)(hs:es≠[]->sz=4)(h0:es=[]->sz=4∨k=.nil)(hk:dD n0 H k):
 gP aq H #[94,94] (.list k sz es) (.list .tight 4 [r])=aa (.list (.free H.tn) 4 (es++[r]),H.app k):=by
 obtain⟨i,h1,q2,q3,h4⟩:=Xs;have hb:=p7 (ah:es.length+1<=1000000) q3;have:=F8 (P:=aq) (h:=H) (n0:=n0) (k:=k) (sz:=sz) (es:=es) (new:=[r]) (x:=.list .tight 4 [r]) (t1:=94) py (.inl ⟨96,py⟩) h1 ah (by rw[q2];exact h4) (by rw[q2];rfl) bH (by simp;omega) (by simp;omega) (by
  rw[q2];by_cases he:es=[]
  ·rcases h0 he with q|q
   ·exact .inl q
   ·exact .inr ⟨he,q⟩
  ·exact .inl (hs he)) hk
 rwa [q2] at this
structure p8(h H:ao)(c:Nat)(vs:List Vl)(t:Tok)(sz:Nat)(ae:List (List AV)):Prop where
 box:H.boxes[c]?=aa (aJ 3 0 [] t sz ae)
 can:dD h.tn H t
 ok:cO H=ai
 ext:Ext h H
 out:h.boxes.length<=c
 rel:nK vs ae
 four:ae≠[]->sz=4
 nil:ae=[]->sz=4∨t=.nil
 fit:gL 0 0 0 ae=ai
def U1:∀(ae:List (List AV)) (r:List AV),gL 0 0 0 ae=ai->aW 0 0 0 r=ai->gL 0 0 0 (ae++[r])=ai
 | [],r,_,h=>by rw[mC,gL,h];rfl
 |a::ae,r,h1,h2=>by rw[gL,bL] at h1;rw[lN,gL,h1.1,U1 ae r h1.2 h2];rfl
def p8.push{h H}{c}{vs}{t}{sz}{ae}(g:p8 h H c vs t sz ae)(cs):p8 h (H.push cs) c vs t sz ae:=
 ⟨bA g.box,by rw[Dy];exact g.can,g.ok,g.ext.trans (.push _ _),g.out,g.rel,g.four,g.nil,g.fit⟩
def p8.put{h H}{c}{vs}{t}{sz}{ae}(g:p8 h H c vs t sz ae){v}{r}(hv:cY v r)(hf:aW 0 0 0 r=ai):
 p8 h ((H.app t).put c (aJ 3 0 [] (.free H.tn) 4 (ae++[r]))) c (vs++[v]) (.free H.tn) 4 (ae++[r]):=by
 have hc:=(aV.1 g.box).1;have gr:=Grown.one g.can g.ok g.ext.tn;refine⟨eP (by rw[eL];exact hc),by rw[Dz];exact gr.can,gr.ok,(gr.ext g.ext (aM _)).gh g.out _,g.out,⟨by simp[g.rel.1],λi w x hw hx=>?_⟩,λ_=>rfl,λ_=>.inl rfl,U1 _ _ g.fit hf⟩;rcases dV i ae.length with aB|ec
 ·rw[rK aB] at hx;rw[rK (by rw[<-g.rel.1];exact aB)] at hw;exact g.rel.2 i w x hw hx
 ·have:=(aV.1 hx).1;rw[dE] at this;have he:i=ae.length:=by simp at this;omega
  subst he;rw[FH] at hx;rw[g.rel.1,FH] at hw;injection hx with hx;injection hw with hw;subst hx;subst hw;exact hv
def CD{H}{c}{t t2}{sz sz2}{ae rows2}(hb:H.boxes[c]?=aa (aJ 3 0 [] t sz ae)):cI aq H 94 (.ptr (.box c) 3) (.list t2 sz2 rows2)=aa (H.put c (aJ 3 0 [] t2 sz2 rows2)):=
 ig (off:=3) (cs:=aJ 3 0 [] t sz ae) (xs:=[.list t2 sz2 rows2]) rfl aw hb rfl (aM 4)
def asw{H:ao}:cI aq (H.push (aJ 0 0 [] .nil 0 [])) 3 (.ptr (.box H.boxes.length) 0) (.v (.int .i64 3))=aa (H.push (aJ 3 0 [] .nil 0 [])):=by rw[ig (off:=0) (cs:=aJ 0 0 [] .nil 0 []) (xs:=[.v (.int .i64 3)]) rfl fH (bh _ _) rfl aO];congr 1;exact pg _ _ _
def XJ{H}{xs:List AV}{i s}{x}(h:xs[i]?=aa x):aI aq Gt H 20 (.elem s (xs.map λa=>[a]) i 0)=aa x:=by rw[rm aw (row:=[x]) (by rw[ev,h];rfl)];rfl
def aaZ:dC aq 20=aa 1:=aw
def uG.afo{x}{v}(h:uG x v):(∃n,x=.iface 3 (.v (.int .i64 n))/\v=.int n/\0<=n/\n<=4611686018427387903)∨(∃k s b,x=.iface 28 (.list k s (bf b))/\v=.text b/\(b≠[]->s=1)/\b.length<=1099511620000)∨∃r,x=.iface 96 (.agg r)/\cY v r:=by
 cases h with|int n hn=>exact .inl ⟨n,rfl,rfl,hn.1,hn.2⟩|text k s b hs hb=>exact .inr (.inl ⟨k,s,b,rfl,rfl,hs,hb⟩)|val v r h=>exact .inr (.inr ⟨r,rfl,h⟩)
def PY(h:ao)(bJ:cO h=ai)(k:Tok)(s:Nat)(xs:List AV)(vs:List Vl)(hr:tO xs vs)(hs:xs≠[]->s=1)(hl:xs.length<=1000)(hf:∀a∈xs,aL 0 0 0 a=ai):
 ∃r h',W4.call 112 [.list k s (xs.map λa=>[a])] h=aa (r,h')/\Ext h h'/\∃t sz ae,r=.ret (.agg (aJ 3 0 [] t sz ae))/\cY (.list vs) (aJ 3 0 [] t sz ae)/\gL 0 0 0 ae=ai/\(xs.length=0->t=.nil/\sz=0/\ae=[]):=by
 have kr:=al.mk (av hr (av hs hf));clear hr hs hf;have z:=xD;have u180:=ac1;have u94:=py;have z20:=aaZ;have cK:(xs.map λa=>[a]).length=xs.length:=bE _;have G0:p8 h (h.push (aJ 3 0 [] .nil 0 [])) h.boxes.length (vs.take 0) .nil 0 []:=⟨bh _ _,.inl rfl,bJ,.push _ _,aM _,⟨rfl,λi v r q=>by simp at q⟩,λq=>absurd rfl q,λ_=>.inr rfl,rfl⟩;refine da rfl Tryz.func112 rfl ?_;refine bG @HV @fO @asw @jV ?_;refine bM.gen λe0 aF bD cN cH=>?_;have f2:e0.get 2=.ptr (.box h.boxes.length) 0:=by rw[aF];exact gS
 have f9:e0.get 9=.list k s (xs.map λa=>[a]):=by rw[aF];exact gS
 have f10:e0.get 10=.v (.int .i64 (xs.length:Nat)):=by rw[aF];exact gS
 have f11:e0.get 11=.v (.int .i64 (0:Nat)):=by rw[aF];exact gR
 have fd:e0.defers=[]:=by rw[bD];exact gS
 clear aF bD cN cH;refine cE (λm e H=>∃(i:Nat) (t:Tok) (sz:Nat) (ae:List (List AV)),i<=xs.length/\m=xs.length - i/\al (p8 h H h.boxes.length (vs.take i) t sz ae)/\al (i=0->t=.nil/\sz=0/\ae=[])/\e.get 2=.ptr (.box h.boxes.length) 0/\e.get 9=.list k s (xs.map λa=>[a])/\e.get 10=.v (.int .i64 (xs.length:Nat))/\e.get 11=.v (.int .i64 (i:Nat))/\e.defers=[]) ?_ xs.length _ _ ?_;rotate_left 1
 ·exact⟨0,.nil,0,[],cG _,rfl,⟨G0⟩,⟨λ_=>⟨rfl,rfl,rfl⟩⟩,f2,f9,f10,f11,fd⟩
 clear f2 f9 f10 f11 fd G0;rintro m e H ⟨i,t,sz,ae,hi,rfl,kG,kN,g2,g9,g10,g11,hd⟩;by_cases aB:i<xs.length
 ·have bF:s=1:=kr.out.2.1 (by intro q;rw[q] at aB;simp at aB);subst bF;obtain⟨x,hx⟩:∃x,xs[i]?=aa x:=⟨_,aT aB⟩;obtain⟨v,hv⟩:∃v,vs[i]?=aa v:=⟨_,aT (by have:=kr.out.1.1;omega)⟩;have Au:=kr.out.1.2 i x v hx hv;have Ah:=kr.out.2.2 x (dn hx);have ld:=XJ (H:=H) (s:=1) hx;have kst:=al.mk (fW hv);have cS:ae.length<1000000:=by have:=kG.out.rel.1;rw[fj] at this;omega
  have fA:(i:Int)<(xs.length:Int):=by omega
  clear hx hv;rcases Au.afo with⟨n,rfl,rfl,nP,tx⟩|⟨kb,sb,b,rfl,rfl,kj,fP⟩|⟨r,rfl,iK⟩
  ·have iK:cY (.int n) (aJ 1 n [] .nil 0 []):=.int n ⟨nP,tx⟩;have kG2:=al.mk (kG.out.put iK rfl);have l3:=nV kG.out.box;have ap:=Be (r:=aJ 1 n [] .nil 0 []) cS kG.out.four kG.out.nil kG.out.can;have bl:=Bh (r:=aJ 1 n [] .nil 0 []) rfl rfl;have st:=CD (H:=H.app t) (t2:=.free H.tn) (sz2:=4) (rows2:=ae++[aJ 1 n [] .nil 0 []]) (by rw[eL];exact kG.out.box);rw[<-kst.out] at kG2;clear iK nP tx Au Ah;refine bG @HV @fO @a9 (av @Ts @M6) ?_;exact⟨xs.length - (i+1),by omega,i+1,_,_,_,by omega,rfl,kG2,⟨λq=>absurd q (SI _)⟩,by simp⟩
  ·have iK:cY (.text b) (aJ 2 0 b .nil 0 []):=.text b fP;have kG2:=al.mk (kG.out.put iK rfl);have l3:=nV kG.out.box;have ap:=Be (r:=aJ 2 0 b .nil 0 []) cS kG.out.four kG.out.nil kG.out.can;have bl:=Bh (r:=aJ 2 0 b .nil 0 []) rfl rfl;have cv:=Js (k:=kb) kj;have st:=CD (H:=H.app t) (t2:=.free H.tn) (sz2:=4) (rows2:=ae++[aJ 2 0 b .nil 0 []]) (by rw[eL];exact kG.out.box);rw[<-kst.out] at kG2;clear iK kj fP Au Ah;refine bG @HV @fO @a9 (av @Tr (av @Tq @M7)) ?_;exact⟨xs.length - (i+1),by omega,i+1,_,_,_,by omega,rfl,kG2,⟨λq=>absurd q (SI _)⟩,by simp⟩
  ·have wP:aW 0 0 0 r=ai:=(by simpa [aL] using Ah);have kG1:=kG.out.push r;have kG2:=al.mk (kG1.put iK wP);have l3:=nV kG1.box;have l4:=pP iK.len (bh H r);have ap:=Be (r:=r) cS kG1.four kG1.nil kG1.can;have bl:=Bh (r:=r) iK.len iK.cells;have st0:=RF (H:=H) iK;have st:=CD (H:=(H.push r).app t) (t2:=.free (H.push r).tn) (sz2:=4) (rows2:=ae++[r]) (by rw[eL];exact kG1.box);rw[<-kst.out] at kG2;clear iK Au kG1 Ah wP;refine bG @HV @fO @a9 (av @adR (av @adQ @adS)) ?_;exact⟨xs.length - (i+1),by omega,i+1,_,_,_,by omega,rfl,kG2,⟨λq=>absurd q (SI _)⟩,by simp⟩
 ·have gT:i=xs.length:=by omega
  subst gT;have hG:=kG.out;rw[gO (by rw[kr.out.1.1];exact aM _)] at hG;have hv:cY (.list vs) (aJ 3 0 [] t sz ae):=.list vs t sz ae hG.rel.1 hG.four (by have:=hG.rel.1;have:=kr.out.1.1;omega) hG.rel.2;have ld:=pP hv.len hG.box;have st:cI aq H 96 (.ptr (.box h.boxes.length) 0) (.agg (aJ 3 0 [] t sz ae))=aa H:=by rw[ig jV pS hG.box rfl (aM 4),xz rfl];rw[sM hG.box]
  have kv:=al.mk (av hv (av hG.ext hG.fit));clear hv hG;refine bI @HV ?_;exact⟨_,_,rfl,kv.out.2.1,_,_,_,rfl,kv.out.1,kv.out.2.2,kN.out⟩
def bd3:mW aq 96 [(0,.v (.int .i64 3))]=aa (.agg (aJ 3 0 [] .nil 0 [])):=aw
inductive xS:AV->Vl->Prop
 |int (n:Int) (hn:0<=n/\n<=4611686018427387903):xS (.iface 3 (.v (.int .i64 n))) (.int n)
 |text (k:Tok) (s:Nat) (b:List UInt8) (hs:b≠[]->s=1) (hb:b.length<=1099511620000):xS (.iface 28 (.list k s (bf b))) (.text b)
def v8(xs:List AV)(vs:List Vl):Prop:=xs.length=vs.length/\∀(i:Nat) x v,xs[i]?=aa x->vs[i]?=aa v->xS x v
def v8.nil:v8 [] []:=⟨rfl,λi x v h=>by simp at h⟩
def v8.cons{x}{v}{xs}{vs}(h:xS x v)(hs:v8 xs vs):v8 (x::xs) (v::vs):=by
 refine⟨by simp[hs.1],λi y w hy hw=>?_⟩;cases i with|zero=>simp at hy hw;subst hy;subst hw;exact h|succ i=>simp at hy hw;exact hs.2 i y w hy hw
def xS.afn{x}{v}(h:xS x v):(∃n,x=.iface 3 (.v (.int .i64 n))/\v=.int n/\0<=n/\n<=4611686018427387903)∨(∃k s b,x=.iface 28 (.list k s (bf b))/\v=.text b/\(b≠[]->s=1)/\b.length<=1099511620000):=by
 cases h with|int n hn=>exact .inl ⟨n,rfl,rfl,hn.1,hn.2⟩|text k s b hs hb=>exact .inr ⟨k,s,b,rfl,rfl,hs,hb⟩
def ak0(h:ao)(bJ:cO h=ai)(k:Tok)(s:Nat)(xs:List AV)(vs:List Vl)(hr:v8 xs vs)(hs:xs≠[]->s=1)(hl:xs.length<=1000)(Ac:gq (.list vs)<=16)(Ae:(dI (.list vs)).length<=1099511600000):
 ∃r h',W4.call 79 [.list k s (xs.map λa=>[a])] h=aa (r,h')/\∃t,r=.ret (.list t 1 (bf (dI (.list vs)))):=by
 have kr:=al.mk (av hr (av hs (av Ac Ae)));clear hr hs Ac Ae;have z:=xD;have u180:=ac1;have u94:=py;have z20:=aaZ;have cK:(xs.map λa=>[a]).length=xs.length:=bE _;have G0:p8 h (h.push (aJ 3 0 [] .nil 0 [])) h.boxes.length (vs.take 0) .nil 0 []:=⟨bh _ _,.inl rfl,bJ,.push _ _,aM _,⟨rfl,λi v r q=>by simp at q⟩,λq=>absurd rfl q,λ_=>.inr rfl,rfl⟩;refine da rfl Tryz.func79 rfl ?_;refine bG @Lq @fO @bd3 (av @LH @jV) ?_;refine bM.gen λe0 aF bD cN cH=>?_;have f2:e0.get 3=.ptr (.box h.boxes.length) 0:=by rw[aF];exact gS
 have f9:e0.get 11=.list k s (xs.map λa=>[a]):=by rw[aF];exact gS
 have f10:e0.get 12=.v (.int .i64 (xs.length:Nat)):=by rw[aF];exact gS
 have f11:e0.get 13=.v (.int .i64 (0:Nat)):=by rw[aF];exact gR
 have fd:e0.defers=[]:=by rw[bD];exact gS
 clear aF bD cN cH;refine cE (λm e H=>∃(i:Nat) (t:Tok) (sz:Nat) (ae:List (List AV)),i<=xs.length/\m=xs.length - i/\al (p8 h H h.boxes.length (vs.take i) t sz ae)/\e.get 3=.ptr (.box h.boxes.length) 0/\e.get 11=.list k s (xs.map λa=>[a])/\e.get 12=.v (.int .i64 (xs.length:Nat))/\e.get 13=.v (.int .i64 (i:Nat))/\e.defers=[]) ?_ xs.length _ _ ?_;rotate_left 1
 ·exact⟨0,.nil,0,[],cG _,rfl,⟨G0⟩,f2,f9,f10,f11,fd⟩
 clear f2 f9 f10 f11 fd G0;rintro m e H ⟨i,t,sz,ae,hi,rfl,kG,g3,g11,g12,g13,hd⟩;by_cases aB:i<xs.length
 ·have bF:s=1:=kr.out.2.1 (by intro q;rw[q] at aB;simp at aB);subst bF;obtain⟨x,hx⟩:∃x,xs[i]?=aa x:=⟨_,aT aB⟩;obtain⟨v,hv⟩:∃v,vs[i]?=aa v:=⟨_,aT (by have:=kr.out.1.1;omega)⟩;have Au:=kr.out.1.2 i x v hx hv;have ld:=XJ (H:=H) (s:=1) hx;have kst:=al.mk (fW hv);have cS:ae.length<1000000:=by have:=kG.out.rel.1;rw[fj] at this;omega
  have fA:(i:Int)<(xs.length:Int):=by omega
  clear hx hv;rcases Au.afn with⟨n,rfl,rfl,nP,tx⟩|⟨kb,sb,b,rfl,rfl,kj,fP⟩
  ·have iK:cY (.int n) (aJ 1 n [] .nil 0 []):=.int n ⟨nP,tx⟩;have kG2:=al.mk (kG.out.put iK rfl);have l3:=nV kG.out.box;have ap:=Be (r:=aJ 1 n [] .nil 0 []) cS kG.out.four kG.out.nil kG.out.can;have bl:=Bh (r:=aJ 1 n [] .nil 0 []) rfl rfl;have st:=CD (H:=H.app t) (t2:=.free H.tn) (sz2:=4) (rows2:=ae++[aJ 1 n [] .nil 0 []]) (by rw[eL];exact kG.out.box);rw[<-kst.out] at kG2;clear iK nP tx Au;refine bG @Lq @fO @a9 (av @Ts @M6) ?_;exact⟨xs.length - (i+1),by omega,i+1,_,_,_,by omega,rfl,kG2,by simp⟩
  ·have iK:cY (.text b) (aJ 2 0 b .nil 0 []):=.text b fP;have kG2:=al.mk (kG.out.put iK rfl);have l3:=nV kG.out.box;have ap:=Be (r:=aJ 2 0 b .nil 0 []) cS kG.out.four kG.out.nil kG.out.can;have bl:=Bh (r:=aJ 2 0 b .nil 0 []) rfl rfl;have cv:=Js (k:=kb) kj;have st:=CD (H:=H.app t) (t2:=.free H.tn) (sz2:=4) (rows2:=ae++[aJ 2 0 b .nil 0 []]) (by rw[eL];exact kG.out.box);rw[<-kst.out] at kG2;clear iK kj fP Au;refine bG @Lq @fO @a9 (av @Tr (av @Tq @M7)) ?_;exact⟨xs.length - (i+1),by omega,i+1,_,_,_,by omega,rfl,kG2,by simp⟩
 ·have gT:i=xs.length:=by omega
  subst gT;have hG:=kG.out;rw[gO (by rw[kr.out.1.1];exact aM _)] at hG;have hv:cY (.list vs) (aJ 3 0 [] t sz ae):=.list vs t sz ae hG.rel.1 hG.four (by have:=hG.rel.1;have:=kr.out.1.1;omega) hG.rel.2;have ld:=pP hv.len hG.box;obtain⟨te,ce⟩:=UP hv kr.out.2.2.1 kr.out.2.2.2;clear hv hG;refine bI @Lq ?_;exact⟨_,_,rfl,_,rfl⟩
def aiQ(h:ao)(bJ:cO h=ai)(bu:List UInt8)(k:Tok)(s:Nat)(xs:List AV)(vs:List Vl)(hr:tO xs vs)(hs:xs≠[]->s=1)(hl:xs.length<=1000)(hf:∀a∈xs,aL 0 0 0 a=ai)(ht:bu.length<=1099511620000)(Ac:gq (.list vs)<=16)(Ae:(dI (.list vs)).length<=1099511600000):
 ∃r h',W4.call 114 [.v (.string (bs bu)),.list k s (xs.map λa=>[a])] h=aa (r,h')/\r=.ret (im ((tg bu (.list vs):Nat):Int)):=by
 obtain⟨_,h1,c1,-,t,sz,ae,rfl,hv,-,-⟩:=PY h bJ k s xs vs hr hs hl hf;obtain⟨te,ce⟩:=UP hv Ac Ae;have cg:=Vq bu (dI (.list vs)) te ah ht;have e:mK (gi bu (dI (.list vs)))=tg bu (.list vs):=rfl;rw[e] at cg;generalize tg bu (.list vs)=n at *
 unfold im at *
 clear hr hs hl hv hf e;refine da rfl Tryz.func114 rfl ?_;refine bI @aqb ?_;exact⟨_,_,rfl,rfl⟩
def aio(n:Nat)(h0:0<n)(hn:n<=1099511627776)(H:ao):W4.call 158 [.list .nil 0 [],.v (.int .i64 (n:Nat))] H=aa (.ret (.arr H.boxes.length 0 0 n),H.push (bg n [im 0]).flatten):=by
 have u23:=dN;have a:=adY (H:=H) h0 hn;have e1:IntKind.i64.wrap ((0:Int) - 0)=0:=by rfl
 have e2:IntKind.i64.wrap (((n:Nat):Int) - 0)=((n:Nat):Int):=by rw[C7,gF ah ah]
 have s2:gY aq 23 (.arr H.boxes.length 0 n n) ar (aa (.v (.int .i64 (0:Nat)))) ar=aa (.arr H.boxes.length 0 0 n):=aaq u23 fH aO aO ah h0;have s2:gY aq 23 (.arr H.boxes.length 0 n n) ar (aa (.v (.int .i64 0))) ar=aa (.arr H.boxes.length 0 0 n):=s2;have aB:(0:Int)<(n:Nat):=by omega
 refine cL rfl acR rfl ?_;exact JM @ZP @Gd @TX (av @aar (av @jY.{0} (av @sQ @C7)))
def ain(H:ao):W4.call 158 [.list .nil 0 [],.v (.int .i64 (0:Nat))] H=aa (.ret (.list .nil 0 []),H):=by
 have u23:=dN;refine cL rfl acR rfl ?_;have e1:IntKind.i64.wrap ((0:Int) - 0)=0:=by rfl
 have e2:IntKind.i64.wrap (((0:Nat):Int) - 0)=0:=by rfl
 exact JM @ZP @Gd @TX (av @aar (av @jY.{0} (av @sQ @C7)))
def agf(k:Tok)(xs:List AV)(dk:List (List (List AV)))(hl:xs.length=dk.length)(H:ao)(hs:∀(i:Nat) x rs,xs[i]?=aa x->dk[i]?=aa rs->dQ 1 H x rs)(hb:dk.flatten.length<=1099511627776)(dB:xs.length<=1000):
 ∃r H',W4.call 109 [.list k 1 (xs.map λx=>[x])] H=aa (r,H')/\∃y,r=.ret y/\Ext H H'/\dQ 1 H' y dk.flatten:=by
 have u23:=dN;have u22:=ir;have aE:=adt;have sE:=iW;have hr:∀(i:Nat) x,xs[i]?=aa x->(xs.map λx=>[x])[i]?=aa [x]:=λi x hx=>by rw[ev,hx];rfl
 have eI:∀i,(dk.take i).flatten.length<=1099511627776:=λi=>by
  refine Nat.le_trans ?_ hb
  conv=>rhs;rw[<-xR i dk,qM,dE]
  omega
 have jA:∀(i:Nat) rs,dk[i]?=aa rs->(dk.take (i+1)).flatten=(dk.take i).flatten++rs:=λi rs hi=>by rw[fW hi,qM];simp
 have kS:=al.mk hs;have kl:=al.mk hl;have kr:=al.mk hr;have kst:=al.mk jA;have kle:=al.mk eI;have nh:(xs.map λx=>[x]).length=xs.length:=by simp
 clear hs hr jA eI hl;generalize hM:(xs.map λx=>[x])=M at *
 refine da rfl Tryz.func109 rfl ?_;refine bI @AH ?_;refine cE (λm e h'=>∃i:Nat,i<=xs.length/\m=xs.length - i/\e.get 0=.list k 1 M/\e.get 9=.list k 1 M/\e.get 10=.v (.int .i64 (xs.length:Nat))/\e.get 11=.v (.int .i64 i)/\e.get 3=.v (.int .i64 ((dk.take i).flatten.length:Nat))/\e.get 2=.list .nil 0 []/\e.defers=[]/\h'=H) ?_ xs.length _ _ ?_;rotate_left 1
 ·refine⟨0,cG _,rfl,?_,?_,?_,?_,?_,?_,?_,rfl⟩<;>(first|assumption|(simp only[gW,reduceIte,aZ,aQ,nh]<;>rfl))
 rintro m e h' ⟨i,hi,rfl,g0,g9,g10,g11,g3,g2,hd,rfl⟩;by_cases aB:i<xs.length
 ·obtain⟨x,hx⟩:∃x,xs[i]?=aa x:=⟨_,aT aB⟩;obtain⟨rs,jz⟩:∃rs,dk[i]?=aa rs:=⟨_,aT (by have:=kl.out;omega)⟩;have s1:=kS.out i x rs hx jz;have ls:=s1.len u23;have vk:=kr.out i x hx;have BW:(i:Int)<(M.length:Int):=by omega
  have q:=kst.out i rs jz;have q1:=kle.out (i+1);rw[q,dE] at q1;have ksum:=al.mk (show(dk.take (i+1)).flatten.length=(dk.take i).flatten.length+rs.length by rw[q,dE]);generalize (dk.take i).flatten.length=n1 at *
  have e1:IntKind.i64.wrap (((n1:Nat):Int)+((rs.length:Nat):Int))=((n1+rs.length:Nat):Int):=by rw[gF ah ah];omega
  have nn:¬(((n1+rs.length:Nat):Int)<0):=by omega
  have ld:aI aq Gt h' 23 (.elem 1 M i 0)=aa x:=by rw[rm aE vk];rfl
  clear q q1 s1;refine bV @AH @a9 ?_;exact⟨xs.length - (i+1),by omega,i+1,by omega,rfl,by trivial,by trivial,by trivial,by simp,by rw[ksum.out],by trivial,by trivial,by trivial⟩
 have:i=xs.length:=by omega
 subst this;rw[show dk.take xs.length=dk by rw[kl.out];exact fI] at g3;have hn:=kle.out xs.length;rw[show dk.take xs.length=dk by rw[kl.out];exact fI] at hn;generalize hN:dk.flatten.length=n at *
 rcases FT n with h0|h0
 ·subst h0;have gn:=ain h';have oX:dk.flatten=[]:=List.eq_nil_of_length_eq_zero hN;refine bI @AH ?_;refine cE (λm e H1=>∃i:Nat,i<=xs.length/\m=xs.length - i/\e.get 25=.list k 1 M/\e.get 26=.v (.int .i64 (xs.length:Nat))/\e.get 27=.v (.int .i64 i)/\e.get 6=.list .nil 0 []/\e.defers=[]/\H1=h') ?_ xs.length _ _ ?_;rotate_left 1
  ·refine⟨0,cG _,rfl,?_,?_,?_,?_,?_,rfl⟩<;>(first|assumption|(simp only[gW,reduceIte,aZ,aQ,nh]<;>rfl))
  clear g0 g9 g10 g11 g3 g2 hd gn;rintro m e H1 ⟨i,hi,rfl,g25,g26,g27,g6,hd,rfl⟩;by_cases aB:i<xs.length
  ·obtain⟨x,hx⟩:∃x,xs[i]?=aa x:=⟨_,aT aB⟩;obtain⟨rs,jz⟩:∃rs,dk[i]?=aa rs:=⟨_,aT (by have:=kl.out;omega)⟩;have s1:=kS.out i x rs hx jz;have Pj:rs=[]:=by
    have:=dn jz;cases rs with|nil=>rfl|cons a l=>exact absurd (Mu.2 ⟨_,this,gj⟩) (by rw[oX];exact uM)
   subst Pj;have an:=adC s1;have vk:=kr.out i x hx;have BW:(i:Int)<(M.length:Int):=(by omega);have ld:aI aq Gt H1 23 (.elem 1 M i 0)=aa x:=(by rw[rm aE vk];rfl);clear s1;refine bV @AH @a9 ?_;exact⟨xs.length - (i+1),by omega,i+1,by omega,rfl,by trivial,by trivial,by simp,by trivial,by trivial,by trivial⟩
  ·have:i=xs.length:=(by omega);subst this;refine bI @AH ?_;exact⟨_,_,rfl,_,rfl,Ext.refl _,by(try rw[oX]);exact dQ.list (λr hr=>by cases hr) (λq=>absurd rfl q)⟩
 ·have gn:=aio n h0 hn h';refine bI @AH ?_;rw[QM];have yC:∀(i:Nat) rs,dk[i]?=aa rs->∀r∈rs,r.length=1:=λi rs hi=>by obtain⟨x,hx⟩:∃x,xs[i]?=aa x:=⟨_,aT (by rw[kl.out];exact(aV.1 hi).1)⟩;exact(kS.out i x rs hx hi).1
  have jj:∀i,∀r∈(dk.take i).flatten,r.length=1:=λi r hr=>by obtain⟨rs,h1,h2⟩:=Mu.1 hr;obtain⟨j,hj⟩:=List.mem_iff_getElem?.1 (oO h1);exact yC j rs hj r h2
  have nw:∀i,(dk.take i).flatten.flatten.length=(dk.take i).flatten.length:=λi=>by rw[nq (jj i),oo]
  have GR:∀i,(dk.take i).flatten.length<=n:=λi=>by
   rw[<-hN]
   conv=>rhs;rw[<-xR i dk,qM,dE]
   omega
  have kfl:=al.mk nw;have kmo:=al.mk GR;have kr2:=al.mk jj;clear yC nw GR jj gn;refine cE (λm e H1=>∃i:Nat,i<=xs.length/\m=xs.length - i/\e.get 25=.list k 1 M/\e.get 26=.v (.int .i64 (xs.length:Nat))/\e.get 27=.v (.int .i64 i)/\e.get 6=.arr h'.boxes.length 0 (dk.take i).flatten.length n/\e.defers=[]/\H1.boxes[h'.boxes.length]?=aa ((dk.take i).flatten.flatten++bg (n - (dk.take i).flatten.length) (im 0))/\Ext h' H1) ?_ xs.length _ _ ?_;rotate_left 1
  ·refine⟨0,cG _,rfl,?_,?_,?_,?_,?_,?_,Ext.push _ _⟩<;>(first|assumption|exact bh _ _|(simp only[gW,reduceIte,aZ,aQ,nh]<;>rfl))
  clear g0 g9 g10 g11 g3 g2 hd;rintro m e H1 ⟨i,hi,rfl,g25,g26,g27,g6,hd,hB,hX⟩;by_cases aB:i<xs.length
  ·obtain⟨x,hx⟩:∃x,xs[i]?=aa x:=⟨_,aT aB⟩;obtain⟨rs,jz⟩:∃rs,dk[i]?=aa rs:=⟨_,aT (by have:=kl.out;omega)⟩;have s1:=(kS.out i x rs hx jz).ext hX;have q:=kst.out i rs jz;have m1:=kmo.out (i+1);have f0:=kfl.out i;have As:(dk.take (i+1)).flatten.length=(dk.take i).flatten.length+rs.length:=(by rw[q,dE]);rw[As] at m1;have Pk:rs.flatten.length=rs.length:=(by rw[nq s1.1,oo]);have ap:=ac4 s1 hB m1 (by rw[dE,List.length_replicate,f0];omega);have lH:eT ((dk.take i).flatten.flatten++bg (n - (dk.take i).flatten.length) (im 0)) (dk.take i).flatten.length rs.flatten=(dk.take (i+1)).flatten.flatten++bg (n - (dk.take (i+1)).flatten.length) (im 0):=(by unfold eT;rw[I4 f0,List.drop_append,pZ (by rw[f0];omega),mC,f0,List.drop_replicate,q,qM,dE,Pk];congr 2;omega);rw[lH] at ap;have vk:=kr.out i x hx;have BW:(i:Int)<(M.length:Int):=(by omega);have ld:aI aq Gt H1 23 (.elem 1 M i 0)=aa x:=(by rw[rm aE vk];rfl);have kX:=al.mk hX;have nx:=(aV.1 hB).1;have ks:=al.mk As;clear s1 hX hB lH q f0 As;refine bV @AH @a9 ?_;refine⟨xs.length - (i+1),by omega,i+1,by omega,rfl,by trivial,by trivial,by simp,by rw[ks.out],by trivial,?_,kX.out.gh (aM _) _⟩;exact eP nx
  ·have:i=xs.length:=(by omega);subst this;have ht:dk.take xs.length=dk:=(by rw[kl.out];exact fI);have f0:=kfl.out xs.length;have jj:=kr2.out xs.length;rw[ht] at hB g6 f0 jj;rw[hN] at hB g6;rw[Nat.sub_self,List.replicate_zero,jX] at hB;have kB:=al.mk hB;have kX:=al.mk hX;clear hB hX;refine bI @AH ?_;exact⟨_,_,rfl,_,rfl,kX.out,dQ.box jj hN.symm kB.out⟩
def L5:List bm:=[28,29,30,42,46,57,59,65,66,69,76,77,78,79,82,92,93,94,97,107,108,109,110,112,115,118,119,120,121,123,129,130,132,135,136,137,138,140,146,172,194,195,196,201]
noncomputable def EO:bm->Option (List AV->ao->Option (AV × ao)):=AA 4 W4 L5 [114]
noncomputable abbrev W5:=whole aq Gt EO
def lO:pX EO L5:=λg hg=>⟨Ez W4 g,by unfold EO AA;rw[aG (by simpa using hg)];rfl⟩
section
variable (a b n x:Int)
def I9:∀h,W5.call 28 [im a,im b] h=aa (.ret (im (cQ a b)),h):=gH (L:=L5) rfl rfl rfl (Tb a b _) rfl rfl
def HA:∀h,W5.call 29 [im a,im b] h=aa (.ret (im (bX a b)),h):=gH (L:=L5) rfl rfl rfl (Ym a b _) rfl rfl
def IB:∀h,W5.call 46 [im x] h=aa (.ret (.v (.bool (bN x))),h):=gH (L:=L5) rfl rfl rfl (aa6 x _) rfl rfl
def DO:∀h,W5.call 69 [im a,im b] h=aa (.ret (.tuple [im (jx a b),im (me a b)]),h):=gH (L:=L5) rfl rfl rfl (aih a b _) rfl rfl
def Gk:∀h,W5.call 30 [im a,im n] h=aa (.ret (.tuple [im (ft a n),im (mJ a)]),h):=gH (L:=L5) rfl rfl rfl (NY a n _) rfl rfl
def anQ:∀h,W5.call 65 [im a,im b] h=aa (.ret (im (cQ a b)),h):=gH (L:=L5) rfl rfl rfl (anP a b _) rfl rfl
def apw:∀h,W5.call 66 [im a,im b] h=aa (.ret (im (bX a b)),h):=gH (L:=L5) rfl rfl rfl (apv a b _) rfl rfl
def aoP:∀h,W5.call 194 [im n] h=aa (.ret (.tuple [im (if fmod n=0 then 0 else eE n),im (if fmod n=0 then 90 else 0)]),h):=gH (L:=L5) rfl rfl rfl (aoO n _) rfl rfl
def ars:∀h,W5.call 94 [im x] h=aa (.ret (.v (.bool (bN x))),h):=gH (L:=L5) rfl rfl rfl (arq x _) rfl rfl
def aop:∀h,W5.call 140 [im a,im b] h=aa (.ret (.tuple [im (jx a b),im (me a b)]),h):=gH (L:=L5) rfl rfl rfl (aoo a b _) rfl rfl
def aow:∀h,W5.call 132 [im a,im n] h=aa (.ret (.tuple [im (ft a n),im (mJ a)]),h):=gH (L:=L5) rfl rfl rfl (aov a n _) rfl rfl
def aoJ:∀h,W5.call 120 [im n] h=aa (.ret (.agg (aJ 1 n [] .nil 0 [])),h):=gH (L:=L5) rfl rfl rfl (aoI n _) rfl rfl
end
def HK(x n):∀h,W5.call 57 [im x,im n] h=aa (.ret (im (ft x n)),h):=gH (L:=L5) rfl rfl rfl (anl x n _) rfl rfl
def Y6(x n):∀h,W5.call 77 [im x,im n] h=aa (.ret (im (ft x n)),h):=gH (L:=L5) rfl rfl rfl (ann x n _) rfl rfl
def alQ(n):∀h,W5.call 59 [im n] h=aa (.ret (.v (.bool (cU n))),h):=gH (L:=L5) rfl rfl rfl (alR n _) rfl rfl
def yY{x y}{ae}{ag}(hx:RL x ae)(hy:IL y ag):RL (aD x) ae/\IL (aD y) ag/\aL 0 0 0 (aD x)=ai/\aL 0 0 0 (aD y)=ai:=
 ⟨hx.fb.1,hy.hold.1,hx.fb.2,hy.hold.2⟩
def Uj(x y)(ae)(ag)(hx:RL x ae)(hy:IL y ag):∀h,W5.call 97 [.agg [x,y]] h=aa (.ret (im (de ae ag)),h):=by obtain⟨h1,h2,h3,h4⟩:=yY hx hy;exact gH (L:=L5) (cA:=[.agg [aD x,aD y]]) rfl rfl (by simp[aW,aL,h3,h4]) (Ui (aD x) (aD y) ae ag h1 h2 _) rfl rfl
def af3(x y)(ae)(ag)(hx:RL x ae)(hy:IL y ag):∀h,W5.call 108 [.agg [x,y]] h=aa (.ret (im (b9 ae:Nat)),h):=by obtain⟨h1,h2,h3,h4⟩:=yY hx hy;obtain⟨h',c,-⟩:=Ur ⟨[],[],0,[]⟩ (aD x) (aD y) ae ag h1 h2;exact gH (L:=L5) (cA:=[.agg [aD x,aD y]]) rfl rfl (by simp[aW,aL,h3,h4]) c rfl rfl
def af7(x y)(ae)(ag)(hx:RL x ae)(hy:IL y ag):∀h,W5.call 42 [.agg [x,y]] h=aa (.ret (im (b9 ae:Nat)),h):=by obtain⟨h1,h2,h3,h4⟩:=yY hx hy;obtain⟨h',c,-⟩:=af6 ⟨[],[],0,[]⟩ (aD x) (aD y) ae ag h1 h2;exact gH (L:=L5) (cA:=[.agg [aD x,aD y]]) rfl rfl (by simp[aW,aL,h3,h4]) c rfl rfl
def af5(x y)(ae)(ag)(hx:RL x ae)(hy:IL y ag):∀h,W5.call 136 [.agg [x,y]] h=aa (.ret (im (b9 ae:Nat)),h):=by obtain⟨h1,h2,h3,h4⟩:=yY hx hy;obtain⟨h',c,-⟩:=af4 ⟨[],[],0,[]⟩ (aD x) (aD y) ae ag h1 h2;exact gH (L:=L5) (cA:=[.agg [aD x,aD y]]) rfl rfl (by simp[aW,aL,h3,h4]) c rfl rfl
def Zj(x y)(ae)(ag)(hx:RL x ae)(hy:IL y ag)(hl:ae.length<=1000000):∀h,W5.call 115 [.agg [x,y]] h=aa (.ret (im (de ae ag)),h):=by obtain⟨h1,h2,h3,h4⟩:=yY hx hy;obtain⟨r,h',c,-,rfl⟩:=anU ⟨[],[],0,[]⟩ (aD x) (aD y) ae ag h1 h2 hl;exact gH (L:=L5) (cA:=[.agg [aD x,aD y]]) rfl rfl (by simp[aW,aL,h3,h4]) c rfl rfl
def Yx(x)(l)(hx:IL x l)(hl:l.length<=1000000):∀h,W5.call 107 [x] h=aa (.ret (.v (.bool (l.all cU))),h):=by obtain⟨h1,h2⟩:=hx.hold;exact gH (L:=L5) (cA:=[aD x]) rfl rfl (by simp[aW,h2]) (Yw (aD x) l h1 hl _) rfl rfl
def amI(x)(l)(hx:IL x l)(hl:l.length<=9223372036854775807):∀h,W5.call 93 [x] h=aa (.ret (.v (.bool (gx (-1) l))),h):=by obtain⟨h1,h2⟩:=hx.hold;obtain⟨r,h',c,-,rfl⟩:=amH ⟨[],[],0,[]⟩ (aD x) l h1 hl;exact gH (L:=L5) (cA:=[aD x]) rfl rfl (by simp[aW,h2]) c rfl rfl
def VO(x)(l)(n)(hx:IL x l)(hl:l.length<=1099511627776):∀h,W5.call 137 [x,im n] h=aa (.ret (.v (.bool (l.contains n))),h):=by obtain⟨h1,h2⟩:=hx.hold;obtain⟨r,h',c,-,rfl⟩:=aiK ⟨[],[],0,[]⟩ (aD x) l n h1 hl;exact gH (L:=L5) (cA:=[aD x,im n]) rfl rfl (by simp[aW,h2,aL,im]) c rfl rfl
def ats(n)(h1:0<n)(h2:n<=1000000):∀h,W5.call 135 [im (n:Nat)] h=aa (.ret (.list .held 1 (ints (fR n))),h):=
 gH (L:=L5) rfl rfl rfl (atr ⟨[],[],0,[]⟩ n h1 h2) (Ci (bh _ _) (RI h1)) (by simp[aL,nL,rG])
def atA(x y)(a b)(hx:IL x a)(hy:IL y b)(hl:a.length<=1000000)(DS:a.length<=b.length):∀h,W5.call 110 [x,y] h=aa (.ret (im (qh a b)),h):=by obtain⟨h1,h2⟩:=hx.hold;obtain⟨h3,h4⟩:=hy.hold;obtain⟨h',c,-⟩:=atz ⟨[],[],0,[]⟩ (aD x) (aD y) a b h1 h3 hl DS;exact gH (L:=L5) (cA:=[aD x,aD y]) rfl rfl (by simp[aW,h2,h4]) c rfl rfl
def UF(x y z)(ae)(ag aj)(hx:RL x ae)(hy:IL y ag)(hz:IL z aj)(hl:aj.length<=1000000):∀h,W5.call 129 [.agg [x,y],z] h=aa (.ret (im (jo ae ag aj)),h):=by obtain⟨h1,h2,h3,h4⟩:=yY hx hy;obtain⟨h5,h6⟩:=hz.hold;obtain⟨r,h',c,-,rfl⟩:=agJ ⟨[],[],0,[]⟩ (aD x) (aD y) (aD z) ae ag aj h1 h2 h5 hl;exact gH (L:=L5) (cA:=[.agg [aD x,aD y],aD z]) rfl rfl (by simp[aW,aL,h3,h4,h6]) c rfl rfl
def aoF(x y)(ae)(ag)(hx:RL x ae)(hy:IL y ag)(a v):∀h,W5.call 130 [.agg [x,y],.agg [im a,im v]] h=aa (.ret (.v (.bool (jm ae (a,v)))),h):=by obtain⟨h1,h2,h3,h4⟩:=yY hx hy;obtain⟨r,h',c,-,rfl⟩:=aoE ⟨[],[],0,[]⟩ (aD x) (aD y) ae ag h1 h2 a v;exact gH (L:=L5) (cA:=[.agg [aD x,aD y],.agg [im a,im v]]) rfl rfl (by simp[aW,aL,h3,h4,im]) c rfl rfl
def U9:∀l:List Int,(ints l).flatten=l.map im
 | []=>rfl
 |a::l=>by show(yL a::ints l).flatten=im a::l.map im;rw[oL,U9 l];rfl
def aj2{h}{y}{l}(s:dQ 1 h y (ints l)):IL (jM h y) l/\aL 0 0 0 (jM h y)=ai:=by
 rcases s.2 with⟨k,s',rfl,hs⟩|⟨b,off,aC,cs,rfl,-,hb,h1,h2⟩
 ·rw[jM];exact⟨⟨_,_,rfl,λq=>hs (by unfold ints;simpa using q)⟩,by rw[aL,fy,nL];rfl⟩
 ·rw[jM,hb];simp only;rw[oo] at h1 h2;have e:(ints l).flatten.map (λc=>[c])=ints l:=by have this:(ints l).flatten=l.map im:=U9 l;rw[this,U8]
  rw[aG h2,h1,e];exact⟨⟨_,_,rfl,λ_=>rfl⟩,by rw[aL,nL];rfl⟩
def agi(x y)(a b)(hx:IL x a)(hy:IL y b)(hl:a.length+b.length<=1000000):∃z,IL z (a++b)/\∀h,W5.call 109 [.list .tight 1 [[x],[y]]] h=aa (.ret z,h):=by
 obtain⟨h1,h2⟩:=hx.hold;obtain⟨h3,h4⟩:=hy.hold;obtain⟨r,h',c,z,rfl,-,sz⟩:=agf .tight [aD x,aD y] [ints a,ints b] rfl ⟨[],[],0,[]⟩ (λi w rs hw jz=>by
  have sa:∀{w:AV} {l:List Int},IL w l->dQ 1 ⟨[],[],0,[]⟩ w (ints l):=λ{w l} hw=>by obtain⟨k,s,rfl,hs⟩:=hw;exact dQ.list (λr hr=>by obtain⟨n,-,rfl⟩:=ju.1 hr;rfl) λq=>hs λe=>q (by rw[e];rfl)
  rcases i with _|_|i
  ·injection hw with hw;injection jz with jz;subst hw;subst jz;exact sa h1
  ·injection hw with hw;injection jz with jz;subst hw;subst jz;exact sa h3
  ·cases hw) (by simp[dp];omega) bH
 have e:[ints a,ints b].flatten=ints (a++b):=by simp[ints]
 rw[e] at sz;obtain⟨i1,i2⟩:=aj2 sz;exact⟨_,i1,gH (L:=L5) (cA:=[.list .tight 1 [[aD x],[aD y]]]) rfl rfl (by simp[aW,aL,gL,h2,h4,rG]) c rfl i2⟩
def aib(bu b)(k)(hb:b.length<=1099511620000)(ht:bu.length<=1099511620000):∀h,W5.call 78 [.v (.string (bs bu)),.list k 1 (bf b)] h=aa (.ret (im (mK (gi bu b):Nat)),h):=
 gH (L:=L5) (cA:=[.v (.string (bs bu)),.list (cd k) 1 (bf b)]) rfl (by rw[cr,cr,aD.eq_1,pJ];rfl) (by simp[aW,aL,fy,jS]) (Vq bu b _ hb ht _) rfl rfl
def uG.hold{x}{v}(h:uG x v):uG (aD x) v/\aL 0 0 0 (aD x)=ai:=by
 cases h with|int n hn=>exact⟨.int n hn,rfl⟩|text k s b hs hb=>rw[aD,aD,pJ];exact⟨.text _ s b hs hb,by simp[aL,fy,jS]⟩|val v r h=>obtain⟨h1,h2⟩:=cY.hold v r h;rw[aD,aD];exact⟨.val v _ h1,by simpa [aL] using h2⟩
def tO.hold{xs}{vs}(h:tO xs vs):tO (xs.map aD) vs/\∀a∈xs.map aD,aL 0 0 0 a=ai:=by
 refine⟨⟨by simp[h.1],λi x v hx hv=>?_⟩,λa ha=>?_⟩
 ·rw[ev] at hx;cases hy:xs[i]? with
  |none=>rw[hy] at hx;cases hx
  |some y=>rw[hy] at hx;injection hx with hx;subst hx;exact(h.2 i y v hy hv).hold.1
 ·obtain⟨y,hy,rfl⟩:=ju.1 ha;obtain⟨i,hi⟩:=tT hy;have cK:=(aV.1 hi).1;exact(h.2 i y _ hi (aT (by rw[<-h.1];exact cK))).hold.2
def cY.tok{vs}{t}{sz}{ae}(h:cY (.list vs) (aJ 3 0 [] t sz ae))(t2):cY (.list vs) (aJ 3 0 [] t2 sz ae):=by
 generalize hr:aJ 3 0 [] t sz ae=r at h;cases h with|list l k z rs a b c d=>unfold aJ at hr;injection hr with _ hr;injection hr with _ hr;injection hr with _ hr;injection hr with hr;injection hr with q1 q2 q3;subst q2;subst q3;exact .list vs t2 sz ae a b c d
def akX(k)(s)(xs)(vs)(hr:tO xs vs)(hs:xs≠[]->s=1)(hl:xs.length<=1000):
 ∃row,cY (.list vs) row/\∀h,W5.call 112 [.list k s (xs.map λa=>[a])] h=aa (.ret (.agg row),h):=by
 obtain⟨h1,h2⟩:=hr.hold;obtain⟨r,h',c,-,t,sz,ae,rfl,hv,hf,-⟩:=PY ⟨[],[],0,[]⟩ vB (cd k) s (xs.map aD) vs h1 (λq=>hs (by simpa using q)) (by simpa using hl) h2;refine⟨aJ 3 0 [] (cd t) sz ae,hv.tok _,gH (L:=L5) (cA:=[.list (cd k) s ((xs.map aD).map λa=>[a])]) rfl (by rw[cr,cr,aD,B9]) (by rw[aW,aW,aL,fy,ye _ h2];rfl) c rfl ?_⟩;rw[aL,aJ,aW,aW,aW,aW,aW,aL,fy,hf];rfl
def Vm{z}{h}:∀xs:List AV,qT z h (xs.map λa=>[a])=(xs.map (j9 z h)).map λa=>[a]
 | []=>rfl
 |x::xs=>by rw[eK,qT,Vm xs];rfl
def Vn{z}{h}:∀b:List UInt8,qT z h (bf b)=bf b
 | []=>rfl
 |a::b=>by show qT z h (j8 a::bf b)=_;rw[qT,Vn b];rfl
def vU(h:ao)(x:AV)(v:Vl):Prop:=uG (j9 4 h x) v/\aL 0 0 0 (j9 4 h x)=ai
def zg(h:ao)(xs:List AV)(vs:List Vl):Prop:=xs.length=vs.length/\∀(i:Nat) x v,xs[i]?=aa x->vs[i]?=aa v->vU h x v
def zg.nil{h}:zg h [] []:=⟨rfl,λi x v q=>by simp at q⟩
def zg.cons{h}{x}{v}{xs}{vs}(q:vU h x v)(hs:zg h xs vs):zg h (x::xs) (v::vs):=by
 refine⟨by simp[hs.1],λi y w hy hw=>?_⟩;cases i with|zero=>simp at hy hw;subst hy;subst hw;exact q|succ i=>simp at hy hw;exact hs.2 i y w hy hw
def vU.int{h}(n)(hn:0<=n/\n<=4611686018427387903):vU h (.iface 3 (.v (.int .i64 n))) (.int n):=⟨.int n hn,rfl⟩
def vU.text{h}(k)(s)(b)(hs:b≠[]->s=1)(hb:b.length<=1099511620000):vU h (.iface 28 (.list k s (bf b))) (.text b):=by unfold vU;rw[j9,j9,Vn];exact⟨.text _ s b hs hb,by simp[aL,fy,jS]⟩
def apV{z}{ae:List (List AV)}(hr:∀r∈ae,r.length=z){i}{r}(h:ae[i]?=aa r):(ae.flatten.drop (i * z)).take z=r:=by
 have hl:=hr r (dn h);refine qL λj=>?_;rw[oh];split
 ·rename_i hj;rw[oN,ahO hr i j hj,h];rfl
 ·rename_i hj;rw[tS ah]
def apZ{z}(hz:0<z):∀ae:List (List AV),(∀r∈ae,r.length=z)->xm z ae.flatten 0 ae.length=ae:=by
 intro ae hr;refine qL λi=>?_;unfold xm;rw[ev];rcases dV i ae.length with hi|hi
 ·rw[FI hi,eW,Nat.zero_add,apV hr (aT hi),aT hi]
 ·rw[tS (by simpa using hi),tS hi];rfl
def vU.list{h}{vs}{ae}{b}(hb:h.boxes[b]?=aa ae.flatten)(hr:nK vs ae)(hm:ae.length<=1000000):vU h (.iface 96 (.agg (im 3::im 0::sv []::[.arr b 0 ae.length ae.length]))) (.list vs):=by
 have hl:∀r∈ae,r.length=4:=λr fY=>by obtain⟨i,hi⟩:=tT fY;have cK:=(aV.1 hi).1;exact(hr.2 i _ r (aT (by rw[<-hr.1];exact cK)) hi).len
 have e:j9 4 h (.iface 96 (.agg (im 3::im 0::sv []::[.arr b 0 ae.length ae.length])))=.iface 96 (.agg (aJ 3 0 [] .held 4 (eU ae))):=by unfold im sv aJ;simp only[j9,mc,hb];rw[aG ⟨by rw[nq hl];omega,by decide⟩,apZ aO ae hl];rfl
 have hv:cY (.list vs) (aJ 3 0 [] .held 4 ae):=.list vs .held 4 ae hr.1 (λ_=>rfl) hm hr.2;obtain⟨h1,h2⟩:=cY.hold _ _ hv;have e2:cr (aJ 3 0 [] .held 4 ae)=aJ 3 0 [] .held 4 (eU ae):=rfl;rw[e2] at h1 h2;unfold vU;rw[e];exact⟨.val _ _ h1,by simpa [aL] using h2⟩
def zg.nt{h}{xs}{vs}(q:zg h xs vs):tO (xs.map (j9 4 h)) vs/\∀a∈xs.map (j9 4 h),aL 0 0 0 a=ai:=by
 refine⟨⟨by simp[q.1],λi x v hx hv=>?_⟩,λa ha=>?_⟩
 ·rw[ev] at hx;cases hy:xs[i]? with
  |none=>rw[hy] at hx;cases hx
  |some y=>rw[hy] at hx;injection hx with hx;subst hx;exact(q.2 i y v hy hv).1
 ·obtain⟨y,hy,rfl⟩:=ju.1 ha;obtain⟨i,hi⟩:=tT hy;have cK:=(aV.1 hi).1;exact(q.2 i y _ hi (aT (by rw[<-q.1];exact cK))).2
def VP(h)(bu)(k)(s)(xs)(vs)(hr:zg h xs vs)(hs:xs≠[]->s=1)(hl:xs.length<=1000)(ht:bu.length<=1099511620000)(Ac:gq (.list vs)<=16)(Ae:(dI (.list vs)).length<=1099511600000):
 W5.call 114 [.v (.string (bs bu)),.list k s (xs.map λa=>[a])] h=aa (.ret (im ((tg bu (.list vs):Nat):Int)),h):=by
 obtain⟨h1,h2⟩:=hr.nt;obtain⟨r,h',c,rfl⟩:=aiQ ⟨[],[],0,[]⟩ vB bu (cd k) s (xs.map (j9 4 h)) vs h1 (λq=>hs (by simpa using q)) (by simpa using hl) h2 ht Ac Ae;refine ahX (cA:=[.v (.string (bs bu)),.list (cd k) s ((xs.map (j9 4 h)).map λa=>[a])]) rfl rfl ?_ ?_ c
 ·rw[mc,mc,mc,j9,Vm];rfl
 ·simp only[aW,aL,fy,ye _ h2,Bool.and_self]
def xS.hold{x}{v}(h:xS x v):xS (aD x) v/\aL 0 0 0 (aD x)=ai:=by
 cases h with|int n hn=>exact⟨.int n hn,rfl⟩|text k s b hs hb=>rw[aD,aD,pJ];exact⟨.text _ s b hs hb,by simp[aL,fy,jS]⟩
def v8.hold{xs}{vs}(h:v8 xs vs):v8 (xs.map aD) vs/\∀a∈xs.map aD,aL 0 0 0 a=ai:=by
 refine⟨⟨by simp[h.1],λi x v hx hv=>?_⟩,λa ha=>?_⟩
 ·rw[ev] at hx;cases hy:xs[i]? with
  |none=>rw[hy] at hx;cases hx
  |some y=>rw[hy] at hx;injection hx with hx;subst hx;exact(h.2 i y v hy hv).hold.1
 ·obtain⟨y,hy,rfl⟩:=ju.1 ha;obtain⟨i,hi⟩:=tT hy;have cK:=(aV.1 hi).1;exact(h.2 i y _ hi (aT (by rw[<-h.1];exact cK))).hold.2
def ak1(k)(s)(xs)(vs)(hr:v8 xs vs)(hs:xs≠[]->s=1)(hl:xs.length<=1000)(Ac:gq (.list vs)<=16)(Ae:(dI (.list vs)).length<=1099511600000):
 ∃t,∀h,W5.call 79 [.list k s (xs.map λa=>[a])] h=aa (.ret (.list t 1 (bf (dI (.list vs)))),h):=by
 obtain⟨h1,h2⟩:=hr.hold;obtain⟨r,h',c,t,rfl⟩:=ak0 ⟨[],[],0,[]⟩ vB (cd k) s (xs.map aD) vs h1 (λq=>hs (by simpa using q)) (by simpa using hl) Ac Ae;exact⟨cd t,gH (L:=L5) (cA:=[.list (cd k) s ((xs.map aD).map λa=>[a])]) rfl (by rw[cr,cr,aD,B9]) (by rw[aW,aW,aL,fy,ye _ h2];rfl) c rfl (by simp[aL,fy,jS])⟩
def ade(k0)(s0)(xs:List AV)(y z)(ae)(ag aA)(hx:RL (.list k0 s0 (xs.map λa=>[a])) ae)(hy:IL y ag)(hz:IL z aA)(kL:aA.length<=1099511627776):
 (∃e,gC ae ag aA=([],az,e)/\∀h,W5.call 76 [.agg [.list k0 s0 (xs.map λa=>[a]),y],z] h=aa (.ret (.tuple [.list .nil 0 [],.v (.bool az),.v (.int .i64 e)]),h))∨
 ∃l,gC ae ag aA=(l,ai,0)/\l.length=ae.length/\∀h,W5.call 76 [.agg [.list k0 s0 (xs.map λa=>[a]),y],z] h=aa (.ret (.tuple [.list .held 1 (ints l),.v (.bool ai),.v (.int .i64 0)]),h):=by
 obtain⟨h1,h2⟩:=hx.hold;obtain⟨h3,h4⟩:=hy.hold;obtain⟨h5,h6⟩:=hz.hold;have ea:cr [.agg [.list k0 s0 (xs.map λa=>[a]),y],z]=[.agg [.list (cd k0) s0 ((xs.map aD).map λa=>[a]),aD y],aD z]:=by rw[cr,aD,cr,cr,cr,aD,B9];rfl
 have ef:aW 0 0 0 [.agg [.list (cd k0) s0 ((xs.map aD).map λa=>[a]),aD y],aD z]=ai:=by have hf:=ye _ h2;rw[aW,aL,aW,aW,aW,aW,aL,fy,hf,h4,h6];rfl
 rcases adb (cd k0) s0 (xs.map aD) (aD y) (aD z) ae ag aA h1 h3 h5 kL with⟨e,e1,hc⟩|⟨l,e1,e2,hc⟩
 ·exact .inl ⟨e,e1,gH (L:=L5) rfl ea ef (hc _) rfl rfl⟩
 ·exact .inr ⟨l,e1,e2,gH (L:=L5) rfl ea ef (hc _) rfl (by simp[aL,aW,nL,rG])⟩
def EY:Tryz.f26.results.toList=[.tmp 6]:=aw
def DJ{b}:iy aq 50 (.ptr (.box b) 0) 0=aa (.ptr (.box b) 0):=aw
def DK{b}:iy aq 50 (.ptr (.box b) 0) 1=aa (.ptr (.box b) 1):=aw
def Ho:isIface aq 3=aa az:=aw
def PB:isIface aq 28=aa az:=aw
def aj3:isIface aq 96=aa az:=aw
def TJ(t u v)(x y z):fX aq 180 3 [(0,.iface t x),(1,.iface u y),(2,.iface v z)]=aa (.list .tight 1 [[.iface t x],[.iface u y],[.iface v z]]):=aw
def Rr(a b)(t):(dI (.list [.int a,.int b,.text t])).length<=60+t.length:=by
 have h1:=nW 9 (0+1+1+1);have h2:=nW 9 (lK a);have h3:=nW 9 (lK b);have h4:=nW 9 t.length;simp only[dI,iY,jn,dE,jY] at *
 omega
def r9:bN 4=ai:=by decide+kernel
def ox{a}(h:bN a=ai)(n):ft a n=((bC a.toNat n:Nat):Int):=by unfold ft;rw[aG h]
def qi{a}(h:elem a=ai):bN ((a:Nat):Int)=ai:=by unfold bN;rw[dK,h,Bool.and_true];have:=(elem_iff.1 h).1;exact cz ah
def Bo{a}(h:bN a=ai):elem a.toNat=ai:=by unfold bN at h;rw[bL] at h;exact h.2
def DI{a}(h:bN a=ai):1<=a/\a<=2147483578:=by obtain⟨n,rfl,h1,h2,h3⟩:=Bp h;have:P=2147483579:=rfl;omega
def ag1{a}(h:bN a=ai)(n):bN ((bC a.toNat n:Nat):Int)=ai:=qi (vI (Bo h) n)
def uX{a}(h:bN a=ai)(n):bN (ft a n)=ai:=by rw[ox h];exact ag1 h n
def yg{a b}(h:bN a=ai)(k:bN b=ai):jx a b=((a.toNat * b.toNat%P:Nat):Int):=by unfold jx;rw[aG ⟨h,k⟩]
def ag0{a b}(h:bN a=ai)(k:bN b=ai):bN (jx a b)=ai:=by rw[yg h k];exact qi (Gg (Bo h) (Bo k))
def aua(h:ao)(key e s:Int)(kt:Tok)(st:Nat)(text:List UInt8)(ct:text≠[]->st=1)(hl:text.length<=1000000):
 ∃r h',W5.call 26 [im key,.list kt st (bf text),.agg [im e,im s]] h=aa (r,h')/\r=.ret (.v (.bool (vR key text e s)))/\Ext h h':=by
 have c1:=IB key;have bx:(AV.agg [im e,im s]).cD=aa [im e,im s]:=rfl;have l0:=Hs (bh h [im e,im s]);have l1:=Ht (bh h [im e,im s]);have kv:al (vR key text e s=(bN key&&cU e&&cU s&&decide (e=((tK ((bC Gn s * bC key.toNat (0 - e)%P:Nat):Int) key text:Nat):Int)))):=⟨by rw[Int.zero_sub];rfl⟩;generalize vR key text e s=res at *
 refine da rfl Tryz.func26 rfl ?_;unfold im at *
 by_cases hA:e<0∨s<0
 ·have d1:decide ((if s<e then s else e)<0)=ai:=cz (by split<;>omega);have kr:al (res=az):=⟨by
   rw[kv.out];unfold cU;rcases hA with q|q
   ·rw[cT (ah:¬0<=e)];simp
   ·rw[cT (ah:¬0<=s)];simp⟩
  clear hA;refine bG @EY @DJ @DK (av @bB (av @Hz @Cq)) ?_;exact⟨_,_,rfl,by rw[kr.out],.push _ _⟩
 have d1:decide ((if s<e then s else e)<0)=az:=cT (by split<;>omega);by_cases hB:1073741789<=e∨1073741789<=s
 ·have d2:decide (1073741789<=(if e<s then s else e))=ai:=cz (by split<;>omega);have kr:al (res=az):=⟨by
   rw[kv.out];unfold cU Qi;rcases hB with q|q
   ·rw[cT (ah:¬e<1073741789)];simp
   ·rw[cT (ah:¬s<1073741789)];simp⟩
  clear hA hB;refine bG @EY @DJ @DK (av @bB (av @Hz @Cq)) ?_;exact⟨_,_,rfl,by rw[kr.out],.push _ _⟩
 have d2:decide (1073741789<=(if e<s then s else e))=az:=cT (by split<;>omega);have aF:0<=e:=by omega
 have iI:e<1073741789:=by omega
 have vp:0<=s:=by omega
 have bF:s<1073741789:=by omega
 clear hA hB;cases hC:bN key with
 |false=>rw[hC] at c1;have kr:al (res=az):=⟨by rw[kv.out,hC];rfl⟩;clear hC;refine bG @EY @DJ @DK (av @bB (av @Hz @Cq)) ?_;exact⟨_,_,rfl,by rw[kr.out],.push _ _⟩
 |true=>
  rw[hC] at c1;have c2:=Y6 4 s;have c3:=Y6 key (0 - e);have c4:=DO (ft 4 s) (ft key (0 - e));have hr:=ag0 (uX r9 s) (uX hC (0 - e));have hR:jx (ft 4 s) (ft key (0 - e))=((bC Gn s * bC key.toNat (0 - e)%P:Nat):Int):=by rw[yg (uX r9 s) (uX hC (0 - e)),ox r9,ox hC,dK,dK];rfl
  have kr:al (res=decide (e=((tK (jx (ft 4 s) (ft key (0 - e))) key text:Nat):Int))):=⟨by rw[kv.out,hC,hR,yK.2 (show okF e from⟨aF,iI⟩),yK.2 (show okF s from⟨vp,bF⟩)];rfl⟩;have hk:=DI hC;have mn:=DI hr;clear hC hR hr;generalize jx (ft 4 s) (ft key (0 - e))=R at *
  have bZ:=Rr R key text;obtain⟨te,c5⟩:=ak1 .tight 1 [.iface 3 (.v (.int .i64 R)),.iface 3 (.v (.int .i64 key)),.iface 28 (.list kt st (bf text))] [.int R,.int key,.text text]
   (.cons (.int R ⟨ah,by omega⟩) (.cons (.int key ⟨ah,by omega⟩) (.cons (.text kt st text ct ah) .nil))) (λ_=>rfl) bH (by simp[gq,hJ]) ah
  have c6:=aib xu (dI (.list [.int R,.int key,.text text])) te ah aO;have hh:mK (gi xu (dI (.list [.int R,.int key,.text text])))=tK R key text:=rfl;rw[hh] at c6;simp only[eK,uK] at c5;generalize tK R key text=n at *
  rw[show xu=[115,105,103,110] from rfl] at c6;have wn:IntKind.i64.wrap (0 - e)=0 - e:=gF ah ah;unfold im at *
  clear bZ hh hk mn;refine bG @EY @DJ @DK (av @bB (av @Hz @Cq)) ?_;refine dR lO aw ?_;refine cR @EY @DJ @DK ?_;refine dR lO aw ?_;refine bG @EY @DJ @DK (av @Ho (av @PB @TJ)) ?_;exact⟨_,_,rfl,by rw[kr.out],.push _ _⟩
def EZ:Tryz.f68.results.toList=[.tmp 6,.tmp 7]:=aw
def Rb:Tryz.f56.results.toList=[.tmp 6,.tmp 7]:=aw
def qE(aj row:List Int)(k:Nat):Nat:=(bR k).foldl (λx j=>x * bC (ak aj j).toNat (ak row j)%P) 1
def QH(aj row)(k):qE aj row (k+1)=qE aj row k * bC (ak aj k).toNat (ak row k)%P:=by unfold qE;rw[nH,oM];rfl
def KP{aj row}(h:aj.all bN=ai):∀k,k<=aj.length->elem (qE aj row k)=ai
 |0,_=>zR
 |k+1,hk=>by rw[QH];refine Gg (KP h k ah) (vI (Bo ?_) _);rw[ej] at h;exact h _ (by rw[ga ah];exact iG _)
def tI(ae:List (List Int))(ag aj:List Int)(row:Int):Int × Int:=
 if jo ae ag aj≠0 then (0,jo ae ag aj) else if decide (row<0)||decide ((ae.length:Int)<=row) then (0,1) else (((gN aj (ae.getD row.toNat []):Nat):Int),0)
def Ul{ae}{ag aj}(h:jo ae ag aj=0):de ae ag=0/\aj.length=b9 ae/\aj.all bN=ai:=by
 unfold jo at h;split at h
 ·rename_i q;exact absurd h q
 ·rename_i q;split at h
  ·rename_i q2;rw[bL,decide_eq_true_eq] at q2;exact⟨by simpa using q,q2.1,q2.2⟩
  ·cases h
def Za(h:ao)(x y z:AV)(ae:List (List Int))(ag aj:List Int)(hx:RL x ae)(hy:IL y ag)(hz:IL z aj)(hl:aj.length<=1000000)(row:Int):
 ∃r h',W5.call 68 [.agg [x,y],z,im row] h=aa (r,h')/\r=.ret (.tuple [im (tI ae ag aj row).1,im (tI ae ag aj row).2])/\Ext h h':=by
 have bx:=pQ hx hy;have c1:=UF x y z ae ag aj hx hy hz hl;have b0:=bh h [x,y];have l0:=rk b0;have l1:=pO b0;have ln:=hx.dW;have kx:=al.mk (av hx hz);clear hx hy b0;have ui:al (jo ae ag aj≠0->tI ae ag aj row=(0,jo ae ag aj)):=⟨λq=>by unfold tI;rw[aG q]⟩;have ni:al (jo ae ag aj=0->row<0∨(ae.length:Int)<=row->tI ae ag aj row=(0,1)):=⟨λq p=>by
  unfold tI;rw[aH (by simp[q]),aG];rcases p with p|p
  ·rw[cz p];rfl
  ·rw[cz p];simp⟩
 have G7:al (jo ae ag aj=0->¬row<0->¬(ae.length:Int)<=row->tI ae ag aj row=(((gN aj (ae.getD row.toNat []):Nat):Int),0)):=⟨λq p1 p2=>by unfold tI;rw[aH (by simp[q]),aH (by rw[cT p1,cT p2];simp)]⟩;have DU:=λq=>@Ul ae ag aj q;have kck:=al.mk DU;clear DU;generalize tI ae ag aj row=res at *
 unfold im at *
 refine da rfl Tryz.func68 rfl ?_;by_cases h0:jo ae ag aj=0;rotate_left 1
 ·have kr:=al.mk (ui.out h0);generalize jo ae ag aj=q at *
  refine bV @EZ @bB ?_;exact⟨_,_,rfl,by rw[kr.out],.push _ _⟩
 rw[h0] at c1;by_cases h1:row<0
 ·have d1:decide (row<0)=ai:=cz h1;have kr:=al.mk (ni.out h0 (.inl h1));clear h1 h0;refine cR @EZ @bB @dw ?_;exact⟨_,_,rfl,by rw[kr.out],.push _ _⟩
 have d1:decide (row<0)=az:=cT h1;by_cases h2:(ae.length:Int)<=row
 ·have d2:decide ((ae.length:Int)<=row)=ai:=cz h2;have kr:=al.mk (ni.out h0 (.inr h2));clear h1 h0 h2;refine cR @EZ @bB @dw ?_;exact⟨_,_,rfl,by rw[kr.out],.push _ _⟩
 have d2:decide ((ae.length:Int)<=row)=az:=cT h2;have kr:=al.mk (G7.out h0 h1 h2);obtain⟨q1,q2,q3⟩:=kck.out h0;obtain⟨w1,w2,w3,w4⟩:=o9 q1;have dJ:row.toNat<ae.length:=by omega
 have Ef:=w3 _ (iG dJ);rw[<-ki (t:=ae) dJ] at Ef;generalize hR:ae.getD row.toNat []=R at *
 have ub:R.length=aj.length:=by rw[Ef.1,q2]
 have dF:aj.length<=64:=by rw[<-ub];exact Ef.2.2.1
 obtain⟨k,s,xs,rfl,hs,dB,eg⟩:=kx.out.1;obtain⟨kz,sz,rfl,dm⟩:=kx.out.2;have bF:s=1:=hs (by intro q;rw[q] at dJ;simp at dJ);subst bF;obtain⟨a,fE⟩:∃a,xs[row.toNat]?=aa a:=⟨_,aT ah⟩;have hv:ae[row.toNat]?=aa R:=by rw[<-hR,dS,aT dJ];rfl
 obtain⟨ka,sa,rfl,iT⟩:=eg _ a R fE hv;have ld:=lh (H:=h.push [.list k 1 (xs.map λa=>[a]),y]) (s:=1) fE;have kk:=al.mk (av dm (av iT q3));have DP:0<=row:=by omega
 have wF:row<(ae.length:Int):=by omega
 have cK:(xs.map λa=>[a]).length=ae.length:=by rw[bE];exact dB
 have tw:=dp R;have OD:=dp aj;have u23:=dN;have u22:=ir;have z23:=iW;have z3:=fH;clear hs eg dm iT fE hv hR Ef w1 w2 w3 w4 q1 q2 q3 ui ni G7 h0 kx kck hz h1 h2;refine cR @EZ @bB @dw ?_;refine cE (λm e H=>∃j:Nat,j<=aj.length/\m=aj.length - j/\e.get 2=.v (.int .i64 row)/\e.get 3=.ptr (.box h.boxes.length) 0/\e.get 6=.v (.int .i64 (qE aj R j:Nat))/\e.get 28=.list kz sz (ints aj)/\e.get 29=.v (.int .i64 (aj.length:Nat))/\e.get 30=.v (.int .i64 (j:Nat))/\e.defers=[]/\H=h.push [.list k 1 (xs.map λa=>[a]),y]) ?_ aj.length _ _ ?_;rotate_left 1
 ·refine⟨0,cG _,rfl,?_,?_,?_,?_,?_,?_,?_,rfl⟩<;>exact gR
 rintro m e H ⟨j,hj,rfl,g2,g3,g6,g28,g29,g30,hd,rfl⟩;by_cases aB:j<aj.length
 ·have jk:sz=1:=kk.out.1 (by intro q;rw[q] at aB;simp at aB);subst jk;have uc:sa=1:=kk.out.2.1 (by intro q;rw[q] at ub;simp at ub;omega);subst uc;have fA:(j:Int)<(aj.length:Int):=by omega
  have ajA:(j:Int)<(R.length:Int):=by omega
  have lc:=e7 (H:=h.push [.list k 1 (xs.map λa=>[a]),y]) (l:=aj) (i:=j) (s:=1) aB;have lr:=e7 (H:=h.push [.list k 1 (xs.map λa=>[a]),y]) (l:=R) (i:=j) (s:=1) ah;have he:bN (ak aj j)=ai:=by have:=kk.out.2.2;rw[ej] at this;exact this _ (by rw[ga aB];exact iG _)
  have c2:=Gk (ak aj j) (ak R j);have c3:=DO ((qE aj R j:Nat):Int) (ft (ak aj j) (ak R j));have hK:=qi (KP (row:=R) kk.out.2.2 j hj);have e3:jx ((qE aj R j:Nat):Int) (ft (ak aj j) (ak R j))=((qE aj R (j+1):Nat):Int):=by rw[yg hK (uX he _),ox he,QH,dK,dK]
  have e4:mJ (ak aj j)=0:=by unfold mJ;rw[aG he]
  have e5:me ((qE aj R j:Nat):Int) (ft (ak aj j) (ak R j))=0:=by unfold me;rw[aG ⟨hK,uX he _⟩]
  rw[e4] at c2;rw[e3,e5] at c3;clear he hK e3 e4 e5;generalize ft (ak aj j) (ak R j)=pw at *
  generalize ak aj j=cj at *
  generalize ak R j=rj at *
  unfold im at *
  refine cR @EZ @dw @a9 ?_;exact⟨aj.length - (j+1),by omega,j+1,by omega,rfl,by simp⟩
 ·have:j=aj.length:=by omega
  subst this;have e:qE aj R aj.length=gN aj R:=rfl;refine bI @EZ ?_;exact⟨_,_,rfl,by rw[kr.out,<-e],.push _ _⟩
def s9(ae:List (List Int))(ag aj:List Int)(p:Int × Int):Bool × Int:=
 if jo ae ag aj≠0 then (az,jo ae ag aj) else if jm ae p=az then (az,340) else (decide (bC Gn p.2=gN aj (ae.getD p.1.toNat [])),0)
def ahI(h:ao)(x y z:AV)(ae:List (List Int))(ag aj:List Int)(hx:RL x ae)(hy:IL y ag)(hz:IL z aj)(hl:aj.length<=1000000)(a v:Int):
 ∃r h',W5.call 56 [.agg [x,y],z,.agg [im a,im v]] h=aa (r,h')/\r=.ret (.tuple [.v (.bool (s9 ae ag aj (a,v)).1),im (s9 ae ag aj (a,v)).2])/\Ext h h':=by
 have bx:=pQ hx hy;have b2:(AV.agg [im a,im v]).cD=aa [im a,im v]:=rfl;have c1:=UF x y z ae ag aj hx hy hz hl;have c2:=aoF x y ae ag hx hy a v;obtain⟨_,H2,c3,rfl,x3⟩:=Za ((h.push [x,y]).push [im a,im v]) x y z ae ag aj hx hy hz hl a;have c4:=Gk 4 v;have e4:mJ 4=0:=by unfold mJ;rw[aG r9]
 rw[e4,ox r9] at c4;have q1:((h.push [x,y]).push [im a,im v]).boxes[h.boxes.length]?=aa [x,y]:=bA (bh h [x,y]);have q2:=bh (h.push [x,y]) [im a,im v];have l0:=rk q1;have l1:aI aq Gt ((h.push [x,y]).push [im a,im v]) 81 (.ptr (.box (h.push [x,y]).boxes.length) 0)=aa (.agg [im a,im v]):=by rw[iC aw (by kernel_rfl:dC aq 81=aa 2) q2 (aM 2)];rfl
 have l2:=Hs q2;have l3:aI aq Gt H2 3 (.ptr (.box (h.push [x,y]).boxes.length) 1)=aa (im v):=Ht (x3.box _ _ q2);have kX:=al.mk (((Ext.push h [x,y]).trans (.push _ [im a,im v])).trans x3);have X1:=al.mk ((Ext.push h [x,y]).trans (.push _ [im a,im v]));have ui:al (jo ae ag aj≠0->s9 ae ag aj (a,v)=(az,jo ae ag aj)):=⟨λq=>by unfold s9;rw[aG q]⟩;have ni:al (jo ae ag aj=0->jm ae (a,v)=az->s9 ae ag aj (a,v)=(az,340)):=⟨λq p=>by unfold s9;rw[aH (by simp[q]),aG p]⟩;have G7:al (jo ae ag aj=0->jm ae (a,v)=ai->s9 ae ag aj (a,v)=(decide (bC Gn v=gN aj (ae.getD a.toNat [])),0)):=⟨λq p=>by unfold s9;rw[aH (by simp[q]),aH (by simp[p])]⟩;have wT:al (jo ae ag aj=0->jm ae (a,v)=ai->tI ae ag aj a=(((gN aj (ae.getD a.toNat []):Nat):Int),0)):=⟨λq p=>by unfold jm at p;simp only[bL,decide_eq_true_eq] at p;unfold tI;rw[aH (by simp[q]),aH];rw[cT (ah:¬a<0),cT (ah:¬(ae.length:Int)<=a)];simp⟩;clear hx hy hz q1 q2 x3 e4;generalize s9 ae ag aj (a,v)=res at *
 refine da rfl Tryz.func56 rfl ?_;by_cases h0:jo ae ag aj=0;rotate_left 1
 ·have kr:=al.mk (ui.out h0);clear c3 c2 l3;generalize jo ae ag aj=q at *
  unfold im at *
  refine bV @Rb @bB ?_;exact⟨_,_,rfl,by rw[kr.out],X1.out⟩
 rw[h0] at c1;cases h1:jm ae (a,v) with
 |false=>
  have kr:=al.mk (ni.out h0 h1);rw[h1] at c2;clear c3 h1 h0 l3;unfold im at *
  refine bV @Rb @bB ?_;exact⟨_,_,rfl,by rw[kr.out],X1.out⟩
 |true=>
  have kr:=al.mk (G7.out h0 h1);rw[wT.out h0 h1] at c3;rw[h1] at c2;clear h1 h0;have hG:(4:Int).toNat=Gn:=rfl;rw[hG] at c4;have hd:decide (bC Gn v=gN aj (ae.getD a.toNat []))=decide (((bC Gn v:Nat):Int)=((gN aj (ae.getD a.toNat []):Nat):Int)):=by rw[decide_eq_decide];omega
  rw[hd] at kr;generalize ((bC Gn v:Nat):Int)=p1 at *
  generalize ((gN aj (ae.getD a.toNat []):Nat):Int)=p2 at *
  clear ui ni G7 wT hd hG;unfold im at *
  refine bG @Rb @bB @yb @yc ?_;exact⟨_,_,rfl,by rw[kr.out],kX.out⟩
def y5:Tryz.f44.results.toList=[.tmp 6,.tmp 7,.tmp 8]:=aw
def apT{T E}{n}(hu:aq.underlying T=aa (.slice E))(hi:∃i,aq.info? E=aa i/\i.size=n/\i.bytes<=64/\(i.zero.map λz=>z.cells.size)=aa n)(hn:0<n){H}{k}{n0 sz}{es}{r}
 (hl:es.length<1000000) (hs:sz=n∨(es=[]/\k=.nil)) (hk:dD n0 H k):gP aq H #[T,T] (.list k sz es) (.list .tight n [r])=aa (.list (.free H.tn) n (es++[r]),H.app k):=by
 obtain⟨i,h1,q2,q3,h4⟩:=hi;have hb:=p7 (ah:es.length+1<=1000000) q3;have:=F8 (P:=aq) (h:=H) (n0:=n0) (k:=k) (sz:=sz) (es:=es) (new:=[r]) (x:=.list .tight n [r]) (t1:=T) hu (.inl ⟨E,hu⟩) h1 ah (by rw[q2];exact h4) (by rw[q2];unfold mM rowsOf;simp) bH (by simp;omega) (by simp;omega) (by rw[q2];exact hs) hk
 rwa [q2] at this
def aj5:∃i,aq.info? 81=aa i/\i.size=2/\i.bytes<=64/\(i.zero.map λz=>z.cells.size)=aa 2:=by
 have h:(match aq.info? 81 with|some i=>jG i.size 2&&MD i.bytes 64&&decide ((i.zero.map λz=>z.cells.size)=aa 2)|none=>az)=ai:=aw;cases hi:aq.info? 81 with
 |none=>rw[hi] at h;cases h
 |some i=>rw[hi] at h;simp only[bL,decide_eq_true_eq] at h;exact⟨i,rfl,jP h.1.1,jZ h.1.2,h.2⟩
def y7(p:Int × Int):List AV:=[.v (.int .i64 p.1),.v (.int .i64 p.2)]
def fV(l:List (Int × Int)):List (List AV):=l.map y7
def SL(x:AV)(l:List (Int × Int)):Prop:=∃k s,x=.list k s (fV l)/\(l≠[]->s=2)
def rZ(ae:List (List Int))(s:List Int):List (Int × Int):=(bR ae.length).map λi=>(((i:Nat):Int),qh (ae.getD i []) s)
def agP(ae)(s):(rZ ae s).length=ae.length:=by unfold rZ;simp
def agO{ae}{s r}{i}(h:ae[i]?=aa r):(rZ ae s)[i]?=aa (((i:Nat):Int),qh r s):=by unfold rZ;have hi:=(aV.1 h).1;rw[ev,FI hi,eW,dS,h];rfl
def tZ(ae:List (List Int))(ag:List Int)(gy:Int)(gX:List Int):Int:=
 if de ae ag≠0 then de ae ag else if cU gy&&gX.all cU&&decide ((gX.length:Int)=(b9 ae:Nat) - 1) then 0 else 1
def Gr(h H:ao)(t:Tok):Prop:=Ext h H/\cO H=ai/\dD h.tn H t
def Gr.app{h H}{t}(g:Gr h H t):Gr h (H.app t) (.free H.tn):=by have gr:=Grown.one g.2.2 g.2.1 g.1.tn;exact⟨gr.ext g.1 (aM _),gr.ok,gr.can⟩
def Gr.push{h H}{t}(g:Gr h H t)(cs):Gr h (H.push cs) t:=⟨g.1.trans (.push _ _),g.2.1,by rw[Dy];exact g.2.2⟩
def Gr.nil{h H}(x:Ext h H)(o:cO H=ai):Gr h H .nil:=⟨x,o,.inl rfl⟩
def aeB(x y)(hx:x.ek=ai)(hy:y.ek=ai):fX aq 22 2 [(0,x),(1,y)]=aa (.list .tight 1 [[x],[y]]):=by cases x<;>first|(cases hx;done)|(cases y<;>first|(cases hy;done)|kernel_rfl)
def IL.ek{x}{l}(h:IL x l):x.ek=ai:=by obtain⟨k,s,rfl,-⟩:=h;rfl
def aeK(a b):fX aq 36 1 [(0,.agg [.v (.int .i64 a),.v (.int .i64 b)])]=aa (.list .tight 2 [[.v (.int .i64 a),.v (.int .i64 b)]]):=aw
def ad9(a b):mW aq 81 [(0,.v (.int .i64 a)),(1,.v (.int .i64 b))]=aa (.agg [.v (.int .i64 a),.v (.int .i64 b)]):=aw
def agL(h:ao)(bJ:cO h=ai)(x y z:AV)(ae:List (List Int))(ag gX:List Int)(gy:Int)(hx:RL x ae)(hy:IL y ag)(hz:IL z gX)(hl:gX.length<=1000)(mn:ae.length<=1000000):
 ∃r h',W5.call 44 [.agg [x,y],im gy,z] h=aa (r,h')/\
  ((tZ ae ag gy gX≠0/\r=.ret (.tuple [.list .nil 0 [],.list .nil 0 [],im (tZ ae ag gy gX)]))∨
  (tZ ae ag gy gX=0/\∃t1 s1 t2 s2,r=.ret (.tuple [.list t1 s1 (fV (rZ ae (gy::gX))),.list t2 s2 (ints (dT (gy::gX))),im 0])/\(rZ ae (gy::gX)≠[]->s1=2)/\s2=1)):=by
 have bx:=pQ hx hy;have c1:=Uj x y ae ag hx hy;have c2:=Yx (.list .tight 1 [[.v (.int .i64 gy)]]) [gy] (Ko gy) bH;rw[(bH:[gy].all cU=cU gy)] at c2;have c3:=Yx z gX hz ah;have c4:=af3 x y ae ag hx hy;obtain⟨z2,ia,c5⟩:=agi (.list .tight 1 [[.v (.int .i64 gy)]]) z [gy] gX (Ko gy) hz (by simp;omega);have b0:=bh h [x,y];have l0:=rk b0;have l1:=pO b0;have lz:=hz.dW;have bl:=qa gy;have blt:=aeB (.list .tight 1 [[.v (.int .i64 gy)]]) z rfl hz.ek;have lx:=hx.dW;have ui:al (de ae ag≠0->tZ ae ag gy gX=de ae ag):=⟨λq=>by unfold tZ;rw[aG q]⟩;have ni:al (de ae ag=0->tZ ae ag gy gX=if cU gy&&gX.all cU&&decide ((gX.length:Int)=(b9 ae:Nat) - 1) then 0 else 1):=⟨λq=>by unfold tZ;rw[aH (by simp[q])]⟩;have kok:=al.mk (λq=>@o9 ae ag q);have kcp:=al.mk (λq=>@uW ae ag q);have kx:=al.mk (av hx ia);have BH:(b9 ae:Int)<=1000000∨de ae ag≠0:=by
  by_cases q:de ae ag=0
  ·have:=(uW q).2;exact .inl ah
  ·exact .inr q
 clear hx hy hz b0 ia;generalize tZ ae ag gy gX=res at *
 unfold im at *
 refine da rfl Tryz.func44 rfl ?_;by_cases h0:de ae ag=0;rotate_left 1
 ·have e1:=ui.out h0;have kr:=al.mk (av h0 e1);clear e1 BH c2 c3 c4 c5;generalize de ae ag=q at *
  refine bV @y5 @bB ?_;exact⟨_,_,rfl,.inl ⟨by rw[kr.out.2];exact kr.out.1,by rw[kr.out.2]⟩⟩
 rw[h0] at c1;have gG:=ni.out h0;have hcp:=kcp.out h0;have hw:IntKind.i64.wrap ((b9 ae:Nat) - 1:Int)=(b9 ae:Nat) - 1:=gF ah ah;clear ui ni kcp BH;have bad:∀(q:(cU gy&&gX.all cU&&decide ((gX.length:Int)=(b9 ae:Nat) - 1))=az),res=1:=λq=>by rw[gG,aH (by simp[q])]
 have good:∀(q:(cU gy&&gX.all cU&&decide ((gX.length:Int)=(b9 ae:Nat) - 1))=ai),res=0:=λq=>by rw[gG,aG q]
 have kb:=al.mk bad;have kg:=al.mk good;clear bad good gG;cases h1:cU gy with
 |false=>rw[h1] at c2;have kr:al (res=1):=⟨kb.out (by rw[h1];rfl)⟩;clear h1 h0 c3 c4 c5;refine bV @y5 @bB ?_;exact⟨_,_,rfl,.inl ⟨by rw[kr.out];decide,by rw[kr.out]⟩⟩
 |true=>
 rw[h1] at c2;cases h2:gX.all cU with
 |false=>rw[h2] at c3;have kr:al (res=1):=⟨kb.out (by rw[h1,h2];rfl)⟩;clear h1 h2 h0 c4 c5;refine bV @y5 @bB ?_;exact⟨_,_,rfl,.inl ⟨by rw[kr.out];decide,by rw[kr.out]⟩⟩
 |true=>
 rw[h2] at c3;by_cases h3:(gX.length:Int)=(b9 ae:Nat) - 1;rotate_left 1
 ·have d3:decide ((gX.length:Int)=((b9 ae:Nat):Int) - 1)=az:=cT h3;have kr:al (res=1):=⟨kb.out (by rw[h1,h2,d3];rfl)⟩;clear h1 h2 h3 h0 c5;refine bV @y5 @bB ?_;exact⟨_,_,rfl,.inl ⟨by rw[kr.out];decide,by rw[kr.out]⟩⟩
 have d3:decide ((gX.length:Int)=((b9 ae:Nat):Int) - 1)=ai:=cz h3;have kr:al (res=0):=⟨kg.out (by rw[h1,h2,d3];rfl)⟩;have kK:(gy::gX).length=b9 ae:=by simp;omega
 obtain⟨w1,w2,w3,w4⟩:=kok.out h0;have kw:=al.mk w3;have ks:=al.mk kK;rw[List.singleton_append] at kx;obtain⟨k,s,xs,rfl,hs,dB,eg⟩:=kx.out.1;obtain⟨kz,sz,rfl,dm⟩:=kx.out.2;have kk:=al.mk (av hs (av eg dm));have ajV:sz=1:=dm bH;subst ajV;have u23:=dN;have u22:=ir;have u36:=Tryz.underlying36;have z23:=iW;have z3:=fH;have cK:(xs.map λa=>[a]).length=ae.length:=by rw[bE];exact dB
 have tw:=dp (gy::gX);clear hs eg dm w1 w3 w4 h1 h2 h3 h0 kK kok kb kg;generalize hS:gy::gX=S at *
 refine cR @y5 @bB @dw ?_;refine bM.gen λe0 aF bD cN cH=>?_;have f6:e0.get 6=.list .nil 0 []:=by rw[aF];exact gS
 have f7:e0.get 7=.list .nil 0 []:=by rw[aF];exact gS
 have f10:e0.get 10=.list kz 1 (ints S):=by rw[aF];exact gS
 have f45:e0.get 45=.list k s (xs.map λa=>[a]):=by rw[aF];exact gS
 have f46:e0.get 46=.v (.int .i64 (ae.length:Nat)):=by rw[aF];exact gS
 have f47:e0.get 47=.v (.int .i64 (0:Nat)):=by rw[aF];exact gR
 have fd:e0.defers=[]:=by rw[bD];exact gS
 clear aF bD cN cH c1 c2 c3 c4 c5 l0 l1 bl blt hw d3 lz;refine cE (λm e H=>∃(i:Nat) (t:Tok) (sz:Nat),i<=ae.length/\m=ae.length - i/\al (Gr h H t)/\al (sz=2∨(fV ((rZ ae S).take i)=[]/\t=.nil))/\e.get 6=.list t sz (fV ((rZ ae S).take i))/\e.get 7=.list .nil 0 []/\e.get 10=.list kz 1 (ints S)/\e.get 45=.list k s (xs.map λa=>[a])/\e.get 46=.v (.int .i64 (ae.length:Nat))/\e.get 47=.v (.int .i64 (i:Nat))/\e.defers=[]) ?_ ae.length _ _ ?_;rotate_left 1
 ·exact⟨0,.nil,0,cG _,rfl,⟨Gr.nil (.push _ _) bJ⟩,⟨.inr ⟨rfl,rfl⟩⟩,f6,f7,f10,f45,f46,f47,fd⟩
 clear f6 f7 f10 f45 f46 f47 fd;rintro m e H ⟨i,t,sz,hi,rfl,kG,ksz,g6,g7,g10,g45,g46,g47,hd⟩;by_cases aB:i<ae.length
 ·have bF:s=1:=kk.out.1 (by intro q;rw[q] at aB;simp at aB);subst bF;obtain⟨a,fE⟩:∃a,xs[i]?=aa a:=⟨_,aT ah⟩;obtain⟨r,hv⟩:∃r,ae[i]?=aa r:=⟨_,aT aB⟩;have ld:=lh (H:=H) (s:=1) fE;have WT:=kk.out.2.1 i a r fE hv;have Ef:=kw.out r (dn hv);have c6:=atA a (.list kz 1 (ints S)) r S WT ⟨_,_,rfl,λ_=>rfl⟩ ah (by have:=ks.out;omega);have fA:(i:Int)<(ae.length:Int):=by omega
  have ap:=apT (T:=36) (r:=y7 (((i:Nat):Int),qh r S)) u36 aj5 aO (by unfold fV;rw[bE,fj];omega) ksz.out kG.out.2.2;have kG2:=al.mk kG.out.app;have e9:fV ((rZ ae S).take i)++[y7 (((i:Nat):Int),qh r S)]=fV ((rZ ae S).take (i+1)):=by rw[fW (agO hv)];unfold fV;simp
  rw[e9] at ap;clear fE hv WT Ef e9;generalize qh r S=dv at *
  unfold im y7 at *
  refine bG @y5 @a9 @ad9 @aeK ?_;exact⟨ae.length - (i+1),by omega,i+1,_,2,by omega,rfl,kG2,⟨.inl rfl⟩,by simp⟩
 have gT:i=ae.length:=by omega
 subst gT;rw[gO (by rw[agP];exact aM _)] at g6 ksz;have kX:=al.mk kG.out.1;have ko:=al.mk kG.out.2.1;clear kG;refine bI @y5 ?_;refine bM.gen λe0 aF bD cN cH=>?_;have f6:e0.get 6=.list t sz (fV (rZ ae S)):=by rw[aF];simp only[gW,reduceIte,aZ,aQ];exact g6
 have f7:e0.get 7=.list .nil 0 []:=by rw[aF];simp only[gW,reduceIte,aZ,aQ];exact g7
 have f61:e0.get 61=.list kz 1 (ints S):=by rw[aF];exact gS
 have f62:e0.get 62=.v (.int .i64 (S.length:Nat)):=by rw[aF];exact gS
 have f63:e0.get 63=.v (.int .i64 (0:Nat)):=by rw[aF];exact gR
 have fd:e0.defers=[]:=by rw[bD];simp only[gW,reduceIte,aZ,aQ];exact hd
 clear aF bD cN cH g6 g7 g10 g45 g46 g47 hd;have hSl:S.length<=1001:=by rw[<-hS];simp;omega
 have e4:mJ 4=0:=by unfold mJ;rw[aG r9]
 clear hS;have dF:(dT S).length=S.length:=by unfold dT;simp
 refine cE (λm e H2=>∃(j:Nat) (t2:Tok) (sz2:Nat),j<=S.length/\m=S.length - j/\al (Gr h H2 t2)/\al (sz2=1∨((dT S).take j=[]/\t2=.nil))/\e.get 6=.list t sz (fV (rZ ae S))/\e.get 7=.list t2 sz2 (ints ((dT S).take j))/\e.get 61=.list kz 1 (ints S)/\e.get 62=.v (.int .i64 (S.length:Nat))/\e.get 63=.v (.int .i64 (j:Nat))/\e.defers=[]) ?_ S.length _ _ ?_;rotate_left 1
 ·exact⟨0,.nil,0,cG _,rfl,⟨Gr.nil kX.out ko.out⟩,⟨.inr ⟨rfl,rfl⟩⟩,f6,f7,f61,f62,f63,fd⟩
 clear f6 f7 f61 f62 f63 fd;rintro m e H2 ⟨j,t2,sz2,hj,rfl,kG,ksz2,g6,g7,g61,g62,g63,hd⟩;by_cases qX:j<S.length
 ·have ld:=e7 (H:=H2) (l:=S) (i:=j) (s:=1) qX;have c2:=Gk 4 (ak S j);rw[e4,ox r9] at c2;have hG:(4:Int).toNat=Gn:=rfl;rw[hG] at c2;have fA:(j:Int)<(S.length:Int):=by omega
  have hv:(dT S)[j]?=aa ((bC Gn (ak S j):Nat):Int):=by unfold dT;rw[ev,aT qX,ga qX];rfl
  have ap:=uR (x:=((bC Gn (ak S j):Nat):Int)) (es:=(dT S).take j) (by rw[fj];omega) ksz2.out kG.out.2.2;have kG2:=al.mk kG.out.app;rw[<-fW hv] at ap;have bl:=qa ((bC Gn (ak S j):Nat):Int);clear hv hG;generalize ((bC Gn (ak S j):Nat):Int)=pv at *
  generalize ak S j=sj at *
  unfold im at *
  refine bV @y5 @a9 ?_;exact⟨S.length - (j+1),by omega,j+1,_,1,by omega,rfl,kG2,⟨.inl rfl⟩,by simp⟩
 ·have oA:j=S.length:=by omega
  subst oA;rw[gO ah] at g7 ksz2;refine bI @y5 ?_;refine⟨_,_,rfl,.inr ⟨kr.out,_,_,_,_,rfl,λq=>?_,?_⟩⟩
  ·rcases ksz.out with z|⟨z,-⟩
   ·exact z
   ·exact absurd (List.map_eq_nil_iff.1 z) q
  ·rcases ksz2.out with z|⟨z,-⟩
   ·exact z
   ·exfalso;have h1:=ks.out;have h2:(dT S).length=0:=(by rw[z];rfl);omega
def aqJ:Tryz.f45.results.toList=[.cell 6 85,.tmp 7]:=aw
def bQ(p:Pr):List AV:=[.v (.int .i64 p.au),.v (.int .i64 p.no),.v (.int .i64 p.d),.v (.int .i64 p.e)]
def AS:(jf aq 85).bind AV.cD=aa (bQ ⟨0,0,0,0⟩):=aw
def rE:dC aq 85=aa 4:=aw
def Tg:gU aq 85=aa ai:=aw
def aea(a b c d):mW aq 85 [(0,.v (.int .i64 a)),(1,.v (.int .i64 b)),(2,.v (.int .i64 c)),(3,.v (.int .i64 d))]=aa (.agg (bQ ⟨a,b,c,d⟩)):=aw
def xB{H:ao}(p):cI aq (H.push (bQ ⟨0,0,0,0⟩)) 85 (.ptr (.box H.boxes.length) 0) (.agg (bQ p))=aa (H.push (bQ p)):=l9 rfl rE rfl rfl
def w8{H}{b}{p}(hb:H.boxes[b]?=aa (bQ p)):aI aq Gt H 85 (.ptr (.box b) 0)=aa (.agg (bQ p)):=by rw[iC Tg rE hb (aM 4)];rfl
def ams(h:ao)(n d f:Int)(hn:0<=n/\n<=1000000):
 ∃r h',W5.call 45 [im n,im d,im f] h=aa (r,h')/\r=.ret (.tuple [.agg (bQ ⟨n,n%7,(bC Gn d:Nat),(bC Gn f:Nat)⟩),.v (.bool ai)]):=by
 have c1:=Gk 4 d;have c2:=Gk 4 f;have e4:mJ 4=0:=by unfold mJ;rw[aG r9]
 have hG:(4:Int).toNat=Gn:=rfl;rw[e4,ox r9,hG] at c1 c2;have z:=AS;have st:=xB (H:=h) ⟨n,n%7,(bC Gn d:Nat),(bC Gn f:Nat)⟩;have ld:=w8 (bh h (bQ ⟨n,n%7,(bC Gn d:Nat),(bC Gn f:Nat)⟩));have hm:n.tmod 7=n%7:=Int.tmod_eq_emod_of_nonneg hn.1;have h7:0<=n%7/\n%7<7:=⟨Int.emod_nonneg _ aO,Int.emod_lt_of_pos _ aO⟩;generalize ((bC Gn d:Nat):Int)=dv at *
 generalize ((bC Gn f:Nat):Int)=fv at *
 generalize n%7=q at *
 unfold im at *
 clear e4 hG;refine da rfl Tryz.func45 rfl ?_;refine bV @aqJ @aea ?_;exact⟨_,_,rfl,rfl⟩
def LM(n:Int):List AV:=[.v (.int .u32 n)]
def UL(x:AV)(l:List Int):Prop:=(∃k s,x=.list k s (l.map LM)/\(l≠[]->s=1))/\∀n∈l,0<=n/\n<4294967296
def Hu{H}{l}{i s}{p}(h:l[i]?=aa p):aI aq Gt H 3 (.elem s (fV l) i 0)=aa (.v (.int .i64 p.1)):=by rw[rm fa (row:=y7 p) (by unfold fV;rw[ev,h];rfl)];rfl
def XR{H}{l}{i s}{p}(h:l[i]?=aa p):aI aq Gt H 3 (.elem s (fV l) i 1)=aa (.v (.int .i64 p.2)):=by rw[rm fa (row:=y7 p) (by unfold fV;rw[ev,h];rfl)];rfl
def ady:gU aq 81=aa ai:=aw
def Ff:dC aq 81=aa 2:=aw
def PK{H}{l}{i s}{p}(h:l[i]?=aa p):aI aq Gt H 81 (.elem s (fV l) i 0)=aa (.agg [.v (.int .i64 p.1),.v (.int .i64 p.2)]):=by rw[Kw ady Ff (row:=y7 p) (by unfold fV;rw[ev,h];rfl) (aM 2)];rfl
def na{sz i}{es}:iy aq 81 (.elem sz es i 0) 0=aa (.elem sz es i 0):=aw
def Jz{sz i}{es}:iy aq 81 (.elem sz es i 0) 1=aa (.elem sz es i 1):=aw
def Fa(l):(fV l).length=l.length:=bE _
def K7:Tryz.f124.results.toList=[.tmp 4]:=aw
def QQ:Tryz.f113.results.toList=[.tmp 4]:=aw
def Re:Tryz.f71.results.toList=[.tmp 4]:=aw
def eS(l:List Pr):List (List AV):=l.map bQ
def vG(l):(eS l).length=l.length:=bE _
def PL(x:AV)(l:List Pr):Prop:=∃k s,x=.list k s (eS l)/\(l≠[]->s=4)
def Ew{H}{l}{i s}{p}(h:l[i]?=aa p):aI aq Gt H 85 (.elem s (eS l) i 0)=aa (.agg (bQ p)):=by rw[Kw Tg rE (row:=bQ p) (by unfold eS;rw[ev,h];rfl) (aM 4)];rfl
def PL.dW{x}{l}(h:PL x l):dW aq 29 x=aa (.v (.int .i64 (l.length:Nat))):=by obtain⟨k,s,rfl,-⟩:=h;have u29:=uO;unfold Go.AE.dW;rw[u29];simp only[vG]
def aj6(g:bm)(aC:List AV)(p:Pr->Bool)(h:ao)(x:AV)(l:List Pr)(hx:PL x l)(hl:l.length<=1000000)
 (hp:∀q∈l,∀H,Ext h H->∃H',W5.call g (.agg (bQ q)::aC) H=aa (.ret (.v (.bool (p q))),H')/\Ext H H'):
 ∃r h',W5.call 124 [x,.func (.func g) [] aC] h=aa (r,h')/\Ext h h'/\((l.find? p=ar/\r=.ret (im (-1)))∨∃(i:Nat) (q:Pr),r=.ret (im (i:Nat))/\l[i]?=aa q/\l.find? p=aa q):=by
 obtain⟨k,s,rfl,hs⟩:=hx;have kp:=al.mk (av hp hs);clear hp hs;have u29:=uO;have z85:=rE;have cK:=vG l;unfold im;refine da rfl Tryz.func124 rfl ?_;refine bI @K7 ?_;refine cE (λm e H=>∃i:Nat,i<=l.length/\m=l.length - i/\al ((l.take i).find? p=ar)/\al (Ext h H)/\e.get 0=.list k s (eS l)/\e.get 1=.func (.func g) [] aC/\e.get 7=.v (.int .i64 (l.length:Nat))/\e.get 8=.v (.int .i64 (i:Nat))/\e.defers=[]) ?_ l.length _ _ ?_;rotate_left 1
 ·refine⟨0,cG _,rfl,⟨rfl⟩,⟨.refl _⟩,?_,?_,?_,?_,?_⟩<;>exact gR
 rintro m e H ⟨i,hi,rfl,ka,kX,g0,g1,g7,g8,hd⟩;by_cases aB:i<l.length
 ·have bF:s=4:=kp.out.2 (by intro q;rw[q] at aB;simp at aB);subst bF;obtain⟨q,hq⟩:∃q,l[i]?=aa q:=⟨_,aT aB⟩;have ld:=Ew (H:=H) (s:=4) hq;obtain⟨H',hc,hX⟩:=kp.out.1 q (dn hq) H kX.out;have kX2:=al.mk (kX.out.trans hX);have fA:(i:Int)<(l.length:Int):=by omega
  have kq:=al.mk hq;have kt:=al.mk (fW hq);clear hX hq;cases fG:p q with
  |true=>rw[fG] at hc;have V9:l.find? p=aa q:=(by have e:l=l.take i++q::l.drop (i+1):=(by rw[<-List.getElem_of_getElem? kq.out|>.2];simp);rw[e,Mn,ka.out,List.find?_cons_of_pos fG];rfl);have kf:=al.mk V9;clear V9 fG;refine cR @K7 @a9 @lN.{0} ?_;exact⟨_,_,rfl,kX2.out,.inr ⟨i,q,rfl,kq.out,kf.out⟩⟩
  |false=>rw[fG] at hc;have kt2:al ((l.take (i+1)).find? p=ar):=⟨by rw[kt.out,Mn,ka.out];simp[fG]⟩;clear fG;refine cR @K7 @a9 @lN.{0} ?_;exact⟨l.length - (i+1),by omega,i+1,by omega,rfl,kt2,by first|exact kX2|trivial,by simp⟩
 ·have:i=l.length:=by omega
  subst this;have:=ka.out;rw[fI] at this;have kan:=al.mk this;clear this;refine bI @K7 ?_;exact⟨_,_,rfl,kX.out,.inl ⟨kan.out,rfl⟩⟩
def JK{a b}(ha:elem a=ai)(hb:elem b=ai):jx ((a:Nat):Int) ((b:Nat):Int)=((a * b%P:Nat):Int):=by rw[yg (qi ha) (qi hb),dK,dK]
def AG{α:Type}{f:α->Nat}:∀{l:List α} (_:∀p∈l,elem (f p)=ai) {k:Nat} (_:elem k=ai),elem (l.foldl (λx p=>x * f p%P) k)=ai
 | [],_,_,hk=>hk
 |a::l,h,k,hk=>AG (l:=l) (λp hp=>h p (fN _ hp)) (Gg hk (h a gj))
def ans(g:bm)(first aC:List AV)(f:Pr->Nat)(h:ao)(x:AV)(l:List Pr)(hx:PL x l)(hl:l.length<=1000000)(he:∀q∈l,elem (f q)=ai)
 (hp:∀q∈l,∀H,Ext h H->∃H',W5.call g (first++[.agg (bQ q)]++aC) H=aa (.ret (im (f q:Nat)),H')/\Ext H H'):
 ∃r h',W5.call 113 [x,.func (.func g) first aC] h=aa (r,h')/\Ext h h'/\r=.ret (im ((l.foldl (λx q=>x * f q%P) 1:Nat):Int)):=by
 obtain⟨k,s,rfl,hs⟩:=hx;have kp:=al.mk (av hp (av hs he));clear hp hs he;have u29:=uO;have z85:=rE;have zc:=AS;have cK:=vG l;unfold im;refine da rfl Tryz.func113 rfl ?_;refine bI @QQ ?_;refine cE (λm e H=>∃i:Nat,i<=l.length/\m=l.length - i/\al (Ext h H)/\e.get 1=.func (.func g) first aC/\e.get 5=.v (.int .i64 (((l.take i).foldl (λx q=>x * f q%P) 1:Nat):Int))/\e.get 8=.list k s (eS l)/\e.get 9=.v (.int .i64 (l.length:Nat))/\e.get 10=.v (.int .i64 (i:Nat))/\e.defers=[]) ?_ l.length _ _ ?_;rotate_left 1
 ·refine⟨0,cG _,rfl,⟨.refl _⟩,?_,?_,?_,?_,?_,?_⟩<;>exact gR
 rintro m e H ⟨i,hi,rfl,kX,g1,g5,g8,g9,g10,hd⟩;by_cases aB:i<l.length
 ·have bF:s=4:=kp.out.2.1 (by intro q;rw[q] at aB;simp at aB);subst bF;obtain⟨q,hq⟩:∃q,l[i]?=aa q:=⟨_,aT aB⟩;have hm:=dn hq;have ld:=Ew (H:=H) (s:=4) hq;have st:=xB (H:=H) q;have l2:=w8 (bh H (bQ q));obtain⟨H',hc,hX⟩:=kp.out.1 q hm (H.push (bQ q)) (kX.out.trans (.push _ _));have kX2:=al.mk ((kX.out.trans (.push H (bQ q))).trans hX);have fA:(i:Int)<(l.length:Int):=by omega
  have eacc:elem ((l.take i).foldl (λx q=>x * f q%P) 1)=ai:=AG (λp hp=>kp.out.2.2 p (oO hp)) zR;have c2:=DO (((l.take i).foldl (λx q=>x * f q%P) 1:Nat):Int) ((f q:Nat):Int);have e2:me (((l.take i).foldl (λx q=>x * f q%P) 1:Nat):Int) ((f q:Nat):Int)=0:=by unfold me;rw[aG ⟨qi eacc,qi (kp.out.2.2 q hm)⟩]
  have e3:(l.take i).foldl (λx q=>x * f q%P) 1 * f q%P=(l.take (i+1)).foldl (λx q=>x * f q%P) 1:=by rw[fW hq,oM];rfl
  rw[JK eacc (kp.out.2.2 q hm),e2,e3] at c2;clear hX hq e2 e3 eacc hm;generalize (l.take i).foldl (λx q=>x * f q%P) 1=acc at *
  generalize Gp:(l.take (i+1)).foldl (λx q=>x * f q%P) 1=zF at *
  have kA:=al.mk Gp;clear Gp;generalize f q=fq at *
  unfold im at *
  refine cR @QQ @a9 @lN.{0} ?_;exact⟨l.length - (i+1),by omega,i+1,by omega,rfl,by first|exact kX2|trivial,by simp[kA.out]⟩
 ·have:i=l.length:=by omega
  subst this;rw[fI] at g5;refine bI @QQ ?_;exact⟨_,_,rfl,kX.out,rfl⟩
def ant(g:bm)(first aC:List AV)(f:Int->Nat)(h:ao)(x:AV)(l:List Int)(hx:IL x l)(hl:l.length<=1000000)(he:∀q∈l,elem (f q)=ai)
 (hp:∀q∈l,∀H,Ext h H->∃H',W5.call g (first++[im q]++aC) H=aa (.ret (im (f q:Nat)),H')/\Ext H H'):
 ∃r h',W5.call 71 [x,.func (.func g) first aC] h=aa (r,h')/\Ext h h'/\r=.ret (im ((l.foldl (λx q=>x * f q%P) 1:Nat):Int)):=by
 obtain⟨k,s,rfl,hs⟩:=hx;have kp:=al.mk (av hp (av hs he));clear hp hs he;have u23:=dN;have z3:=fH;have cK:=dp l;unfold im;refine da rfl Tryz.func71 rfl ?_;refine bI @Re ?_;refine cE (λm e H=>∃i:Nat,i<=l.length/\m=l.length - i/\al (Ext h H)/\e.get 1=.func (.func g) first aC/\e.get 5=.v (.int .i64 (((l.take i).foldl (λx q=>x * f q%P) 1:Nat):Int))/\e.get 8=.list k s (ints l)/\e.get 9=.v (.int .i64 (l.length:Nat))/\e.get 10=.v (.int .i64 (i:Nat))/\e.defers=[]) ?_ l.length _ _ ?_;rotate_left 1
 ·refine⟨0,cG _,rfl,⟨.refl _⟩,?_,?_,?_,?_,?_,?_⟩<;>exact gR
 rintro m e H ⟨i,hi,rfl,kX,g1,g5,g8,g9,g10,hd⟩;by_cases aB:i<l.length
 ·have bF:s=1:=kp.out.2.1 (by intro q;rw[q] at aB;simp at aB);subst bF;have hq:l[i]?=aa (ak l i):=by rw[aT aB,ga aB]
  have hm:=dn hq;have ld:=e7 (H:=H) (s:=1) aB;generalize ak l i=q at *
  obtain⟨H',hc,hX⟩:=kp.out.1 q hm H kX.out;unfold im at hc;have kX2:=al.mk (kX.out.trans hX);have fA:(i:Int)<(l.length:Int):=by omega
  have eacc:elem ((l.take i).foldl (λx q=>x * f q%P) 1)=ai:=AG (λp hp=>kp.out.2.2 p (oO hp)) zR;have c2:=DO (((l.take i).foldl (λx q=>x * f q%P) 1:Nat):Int) ((f q:Nat):Int);have e2:me (((l.take i).foldl (λx q=>x * f q%P) 1:Nat):Int) ((f q:Nat):Int)=0:=by unfold me;rw[aG ⟨qi eacc,qi (kp.out.2.2 q hm)⟩]
  have e3:(l.take i).foldl (λx q=>x * f q%P) 1 * f q%P=(l.take (i+1)).foldl (λx q=>x * f q%P) 1:=by rw[fW hq,oM];rfl
  rw[JK eacc (kp.out.2.2 q hm),e2,e3] at c2;clear hX hq e2 e3 eacc hm;generalize (l.take i).foldl (λx q=>x * f q%P) 1=acc at *
  generalize Gp:(l.take (i+1)).foldl (λx q=>x * f q%P) 1=zF at *
  have kA:=al.mk Gp;clear Gp;generalize f q=fq at *
  unfold im at *
  refine cR @Re @a9 @lN.{0} ?_;exact⟨l.length - (i+1),by omega,i+1,by omega,rfl,by first|exact kX2|trivial,by simp[kA.out]⟩
 ·have:i=l.length:=by omega
  subst this;rw[fI] at g5;refine bI @Re ?_;exact⟨_,_,rfl,kX.out,rfl⟩
def AI:Tryz.f111.results.toList=[.tmp 2]:=aw
def aqo:Tryz.f161.results.toList=[.tmp 2]:=aw
def Z1:Tryz.f49.results.toList=[.tmp 4]:=aw
def Lp:Tryz.f70.results.toList=[.tmp 4]:=aw
def uY{b}:iy aq 27 (.ptr (.box b) 0) 0=aa (.ptr (.box b) 0):=aw
def eD{b}:iy aq 27 (.ptr (.box b) 0) 1=aa (.ptr (.box b) 1):=aw
def iP{b}:iy aq 27 (.ptr (.box b) 0) 2=aa (.ptr (.box b) 3):=aw
def zU{b}:iy aq 25 (.ptr (.box b) 1) 0=aa (.ptr (.box b) 1):=aw
def aht{b}:iy aq 25 (.ptr (.box b) 1) 1=aa (.ptr (.box b) 2):=aw
def qS:(∀b,iy aq 98 (.ptr (.box b) 0) 0=aa (.ptr (.box b) 0))/\(∀b,iy aq 98 (.ptr (.box b) 0) 1=aa (.ptr (.box b) 4))/\(∀b,iy aq 98 (.ptr (.box b) 0) 2=aa (.ptr (.box b) 5))/\(∀b,iy aq 98 (.ptr (.box b) 0) 3=aa (.ptr (.box b) 6))/\
 (∀b,iy aq 98 (.ptr (.box b) 0) 4=aa (.ptr (.box b) 7))/\(∀b,iy aq 98 (.ptr (.box b) 0) 5=aa (.ptr (.box b) 11))/\∀b,iy aq 98 (.ptr (.box b) 0) 6=aa (.ptr (.box b) 12):=
 ⟨λ_=>aw,λ_=>aw,λ_=>aw,λ_=>aw,λ_=>aw,λ_=>aw,λ_=>aw⟩
def UR{b}:iy aq 96 (.ptr (.box b) 7) 3=aa (.ptr (.box b) 10):=aw
def jg:(∀b,iy aq 85 (.ptr (.box b) 0) 0=aa (.ptr (.box b) 0))/\(∀b,iy aq 85 (.ptr (.box b) 0) 1=aa (.ptr (.box b) 1))/\(∀b,iy aq 85 (.ptr (.box b) 0) 2=aa (.ptr (.box b) 2))/\∀b,iy aq 85 (.ptr (.box b) 0) 3=aa (.ptr (.box b) 3):=
 ⟨λ_=>aw,λ_=>aw,λ_=>aw,λ_=>aw⟩
def dx{H}{t}{b j}{cs}{x}(ha:gU aq t=aa az)(hb:H.boxes[b]?=aa cs)(hj:cs[j]?=aa x):aI aq Gt H t (.ptr (.box b) j)=aa x:=by rw[mw ha hb,List.head?_drop,hj]
def adx:gU aq 28=aa az:=aw
def Tf:gU aq 29=aa az:=aw
def wh:gU aq 90=aa az:=aw
def aP(ep:Int)(X Y C:AV):List AV:=[.v (.int .i64 ep),X,Y,C]
def il(ep:Int)(X Y C T L Wt All:AV)(pt ch:Int):List AV:=[.v (.int .i64 ep),X,Y,C,T,L,Wt,.v (.int .i64 3),.v (.int .i64 0),sv [],All,.v (.int .i64 pt),.v (.int .i64 ch)]
def kU(ae:List (List Int))(ep:Int)(aj:List Int):Bool:=decide (0<=ep)&&decide (ep<=64)&&decide (aj.length=b9 ae)&&aj.all bN
def atZ(n)(h):W5.call 161 [im n] h=aa (.ret (.v (.bool (!bN n))),h):=by
 have c:=IB n;unfold im at *
 refine cL rfl Tryz.func161 rfl ?_;exact lP @aqo
def vv{ep}{X Y C}{ae}{ag aj}(hx:RL X ae)(hy:IL Y ag)(hc:IL C aj):(AV.agg (aP ep X Y C)).cD=aa (aP ep X Y C):=by obtain⟨k,s,xs,rfl,-⟩:=hx.form;obtain⟨ky,sy,rfl,-⟩:=hy;obtain⟨kc,sc,rfl,-⟩:=hc;rfl
def aoD(h:ao)(ep:Int)(X Y C:AV)(ae:List (List Int))(ag aj:List Int)(hx:RL X ae)(hy:IL Y ag)(hc:IL C aj)(hl:aj.length<=1000000):
 ∃r h',W5.call 111 [.agg (aP ep X Y C)] h=aa (r,h')/\h'=h.push (aP ep X Y C)/\r=.ret (.v (.bool (kU ae ep aj))):=by
 have bx:=vv (ep:=ep) hx hy hc;have b0:=bh h (aP ep X Y C);have l0:aI aq Gt (h.push (aP ep X Y C)) 3 (.ptr (.box h.boxes.length) 0)=aa (.v (.int .i64 ep)):=dx fa b0 rfl;have l1:aI aq Gt (h.push (aP ep X Y C)) 22 (.ptr (.box h.boxes.length) 1)=aa X:=dx MU b0 rfl;have l3:aI aq Gt (h.push (aP ep X Y C)) 23 (.ptr (.box h.boxes.length) 3)=aa C:=dx pC b0 rfl;have ln:=hx.dW;have lc:=hc.dW;have cc:=Jr (pr:=EO) rfl rfl 161 [] (λn=> !bN n) (h.push (aP ep X Y C)) C aj hc hl (λn _=>atZ n _);rw[Tj] at cc;have kv:al (kU ae ep aj=(decide (0<=ep)&&decide (ep<=64)&&decide (aj.length=b9 ae)&&aj.all bN)):=⟨rfl⟩;generalize kU ae ep aj=res at *
 obtain⟨k,s,xs,rfl,hs,dB,eg⟩:=hx;have kk:=al.mk (av hs eg);have u23:=dN;have u22:=ir;have z23:=iW;have cK:(xs.map λa=>[a]).length=ae.length:=by rw[bE];exact dB
 clear hs eg hc hy b0;have kcols:al (ae.length=0->b9 ae=1):=⟨λq=>by unfold b9;rw[aG q]⟩;have kcols2:al (∀r0,ae[0]?=aa r0->b9 ae=r0.length):=⟨λr0 q=>by unfold b9;rw[aH (by have:=(aV.1 q).1;omega),dS,q];rfl⟩;refine da rfl Tryz.func111 rfl ?_;have fin:∀n:Nat,b9 ae=n->al (res=(decide (0<=ep)&&decide (ep<=64)&&decide (aj.length=n)&&aj.all bN)):=λn q=>⟨by rw[kv.out,q]⟩;have gv:=al.mk fin;clear fin;rcases FT ae.length with h0|h0
 ·have hq:¬((0:Int)<(ae.length:Int)):=by omega
  have kf:=gv.out _ (kcols.out h0);clear h0;clear kcols kcols2 gv kv;by_cases h1:0<=ep;rotate_left 1
  ·have d1:decide (0<=ep)=az:=cT h1;have kr:al (res=az):=⟨by rw[kf.out,d1];rfl⟩;clear h1 cc;refine bG @AI @bB @uY (av @eD (av @iP (av @zU @a9))) ?_;exact⟨_,_,rfl,rfl,by rw[kr.out]⟩
  have d1:decide (0<=ep)=ai:=cz h1;by_cases h2:ep<=64;rotate_left 1
  ·have d2:decide (ep<=64)=az:=cT h2;have kr:al (res=az):=⟨by rw[kf.out,d2];simp⟩;clear h1 h2 cc;refine bG @AI @bB @uY (av @eD (av @iP (av @zU @a9))) ?_;exact⟨_,_,rfl,rfl,by rw[kr.out]⟩
  have d2:decide (ep<=64)=ai:=cz h2;by_cases h3:aj.length=1;rotate_left 1
  ·have d3:decide ((aj.length:Int)=1)=az:=cT ah;have kr:al (res=az):=⟨by rw[kf.out,cT h3];simp⟩;clear h1 h2 h3 cc;refine bG @AI @bB @uY (av @eD (av @iP (av @zU @a9))) ?_;exact⟨_,_,rfl,rfl,by rw[kr.out]⟩
  have d3:decide ((aj.length:Int)=1)=ai:=cz ah;have kr:al (res=aj.all bN):=⟨by rw[kf.out,d1,d2,cz h3];rfl⟩;have GU:(!!aj.all bN)=aj.all bN:=by simp
  clear h1 h2 h3;refine bG @AI @bB @uY (av @eD (av @iP (av @zU @a9))) ?_;exact⟨_,_,rfl,rfl,by rw[kr.out]⟩
 ·have hq:((0:Int)<(ae.length:Int)):=by omega
  have bF:s=1:=kk.out.1 (by intro q;rw[q] at h0;simp at h0);subst bF;obtain⟨a0,gf⟩:∃a,xs[0]?=aa a:=⟨_,aT ah⟩;obtain⟨r0,gg⟩:∃r,ae[0]?=aa r:=⟨_,aT ah⟩;have ld0:=lh (H:=h.push (aP ep (.list k 1 (xs.map λa=>[a])) Y C)) (s:=1) gf;obtain⟨ka0,sa0,rfl,pK⟩:=kk.out.2 0 a0 r0 gf gg;have kf:=gv.out _ (kcols2.out r0 gg);have cS:=dp r0;have z0:(0:Int).toNat=0:=rfl;generalize r0.length=N at *
  clear gf gg pK h0;clear kcols kcols2 gv kv;by_cases h1:0<=ep;rotate_left 1
  ·have d1:decide (0<=ep)=az:=cT h1;have kr:al (res=az):=⟨by rw[kf.out,d1];rfl⟩;clear h1 cc;refine bG @AI @bB @uY (av @eD (av @iP (av @zU @a9))) ?_;exact⟨_,_,rfl,rfl,by rw[kr.out]⟩
  have d1:decide (0<=ep)=ai:=cz h1;by_cases h2:ep<=64;rotate_left 1
  ·have d2:decide (ep<=64)=az:=cT h2;have kr:al (res=az):=⟨by rw[kf.out,d2];simp⟩;clear h1 h2 cc;refine bG @AI @bB @uY (av @eD (av @iP (av @zU @a9))) ?_;exact⟨_,_,rfl,rfl,by rw[kr.out]⟩
  have d2:decide (ep<=64)=ai:=cz h2;by_cases h3:aj.length=N;rotate_left 1
  ·have d3:decide ((aj.length:Int)=(N:Int))=az:=cT ah;have kr:al (res=az):=⟨by rw[kf.out,cT h3];simp⟩;clear h1 h2 h3 cc;refine bG @AI @bB @uY (av @eD (av @iP (av @zU @a9))) ?_;exact⟨_,_,rfl,rfl,by rw[kr.out]⟩
  have d3:decide ((aj.length:Int)=(N:Int))=ai:=cz ah;have kr:al (res=aj.all bN):=⟨by rw[kf.out,d1,d2,cz h3];rfl⟩;have GU:(!!aj.all bN)=aj.all bN:=by simp
  clear h1 h2 h3;refine bG @AI @bB @uY (av @eD (av @iP (av @zU @a9))) ?_;exact⟨_,_,rfl,rfl,by rw[kr.out]⟩
structure uP(H:ao)(c:Nat)(ep:Int)(X Y C T L Wt:AV)(pt ch:Int)(aj:List Int)(text:List UInt8)(l:List Pr):Prop where
 eC:∃(b:Nat) (ae:List (List AV)),H.boxes[c]?=aa (il ep X Y C T L Wt (.arr b 0 ae.length ae.length) pt ch)/\H.boxes[b]?=aa ae.flatten/\nK (l.map Pr.val) ae
 Nw:IL C aj
 pos:0<aj.length
 c0:0<=ak aj 0/\ak aj 0<=4611686018427387903
 fM:∃kt st,T=.list kt st (bf text)/\(text≠[]->st=1)
 tl:text.length<=65536
 ll:l.length<=64
def uP.mono{H H'}{c}{ep}{X Y C T L Wt}{pt ch}{aj}{text}{l}(w:uP H c ep X Y C T L Wt pt ch aj text l)(x:Ext H H'):uP H' c ep X Y C T L Wt pt ch aj text l:=by obtain⟨b,ae,h1,h2,h3⟩:=w.eC;exact⟨⟨b,ae,x.box _ _ h1,x.box _ _ h2,h3⟩,w.Nw,w.pos,w.c0,w.fM,w.tl,w.ll⟩
def aa5(l:List Pr):hJ (l.map Pr.val)<=1:=by
 induction l with
 |nil=>simp[hJ]|cons p l ih=>
  rw[eK,hJ];have:gq p.val=1:=by simp[Pr.val,gq,hJ]
  omega
def atX(p:Pr):(dI p.val).length<=100:=by
 have h0:=nW 9 (0+1+1+1+1);have h1:=nW 9 (lK p.au);have h2:=nW 9 (lK p.no);have h3:=nW 9 (lK p.d);have h4:=nW 9 (lK p.e);simp only[Pr.val,dI,iY,jn,dE,jY] at *
 omega
def aa7:∀l:List Pr,(iY (l.map Pr.val)).length<=l.length * 100
 | []=>by simp[iY]
 |p::l=>by have h1:=atX p;have h2:=aa7 l;rw[eK,iY,dE,jn,gI];omega
def TA(c0)(text)(l)(k):(dI (.list [.int c0,.text text,tH l,.int k])).length<=100+text.length+l.length * 100:=by
 have h0:=nW 9 (0+1+1+1+1);have h1:=nW 9 (lK c0);have h2:=nW 9 text.length;have h3:=nW 9 (lK k);have h4:=nW 9 (l.map Pr.val).length;have h5:=aa7 l;simp only[tH,dI,iY,jn,dE,jY] at *
 omega
def Nj(t u v w)(x y z q):fX aq 180 4 [(0,.iface t x),(1,.iface u y),(2,.iface v z),(3,.iface w q)]=aa (.list .tight 1 [[.iface t x],[.iface u y],[.iface v z],[.iface w q]]):=aw
def Nf(H:ao)(c:Nat)(ep:Int)(X Y C T L Wt:AV)(pt ch:Int)(aj:List Int)(text:List UInt8)(l:List Pr)(w:uP H c ep X Y C T L Wt pt ch aj text l)(q:Pr)(hk:0<=q.au/\q.au<=4611686018427387903):
 ∃r H',W5.call 49 [.ptr (.box c) 0,.agg (bQ q)] H=aa (r,H')/\H'=H.push (bQ q)/\r=.ret (im ((eY (ak aj 0) text l q.au:Nat):Int)):=by
 have w2:=w.mono (.push H (bQ q));obtain⟨b,ae,h1,h2,h3⟩:=w2.eC;obtain⟨kc,sc,rfl,um⟩:=w.Nw;obtain⟨kt,st,rfl,ct⟩:=w.fM;have lG:=w.pos;have Pm:sc=1:=um (by intro e;rw[e] at lG;simp at lG);subst Pm;have eO:ae.length<=64:=by have:=h3.1;rw[bE] at this;have:=w.ll;omega
 have bl:=TA (ak aj 0) text l q.au;have hd:=aa5 l;have hh:=VP (H.push (bQ q)) CA .tight 1 [.iface 3 (.v (.int .i64 (ak aj 0))),.iface 28 (.list kt st (bf text)),.iface 96 (.agg (im 3::im 0::sv []::[.arr b 0 ae.length ae.length])),.iface 3 (.v (.int .i64 q.au))] [.int (ak aj 0),.text text,tH l,.int q.au]
  (.cons (.int _ w.c0) (.cons (.text kt st text ct (by have:=w.tl;omega)) (.cons (.list h2 h3 ah) (.cons (.int _ hk) .nil)))) (λ_=>rfl) bH aO (by simp[tH,gq,hJ];omega) (by have:=w.tl;have:=w.ll;omega)
 have wJ:tg CA (.list [.int (ak aj 0),.text text,tH l,.int q.au])=eY (ak aj 0) text l q.au:=rfl;rw[wJ] at hh;rw[show CA=[98,105,110,100] from rfl] at hh;generalize eY (ak aj 0) text l q.au=bn at *
 have b0:=bh H (bQ q);have l0:aI aq Gt (H.push (bQ q)) 3 (.ptr (.box H.boxes.length) 0)=aa (.v (.int .i64 q.au)):=dx fa b0 rfl;have l1:aI aq Gt (H.push (bQ q)) 23 (.ptr (.box c) 3)=aa (.list kc 1 (ints aj)):=dx pC h1 rfl;have l2:aI aq Gt (H.push (bQ q)) 28 (.ptr (.box c) 4)=aa (.list kt st (bf text)):=dx adx h1 rfl;have l3:aI aq Gt (H.push (bQ q)) 96 (.ptr (.box c) 7)=aa (.agg [im 3,im 0,sv [],.arr b 0 ae.length ae.length]):=by rw[iC MW pS h1 (jZ rfl)];rfl
 have l4:=e7 (H:=H.push (bQ q)) (l:=aj) (i:=0) (s:=1) lG;have bc:(AV.agg (bQ q)).cD=aa (bQ q):=rfl;have cK:=dp aj;have u23:=dN;have z3:=fH;have G8:(0:Int)<(aj.length:Int):=by omega
 have z0:(0:Int).toNat=0:=rfl;simp only[eK,uK] at hh;clear w w2 h1 h2 h3 um ct wJ bl hd b0 lG;generalize ak aj 0=c0 at *
 unfold im at *
 refine da rfl Tryz.func49 rfl ?_;refine bV @Z1 @bB ?_;refine dR lO aw ?_;refine bG @Z1 @qS @iP (av @jg (av @a9 (av @Ho (av @PB (av @aj3 @Nj))))) ?_;exact⟨_,_,rfl,rfl,rfl⟩
def aey(c0)(text)(l)(k):okF ((eY c0 text l k:Nat):Int):=VR _ _
def Yq(H:ao)(c:Nat)(ep:Int)(X Y C T L Wt:AV)(pt ch:Int)(aj:List Int)(text:List UInt8)(l:List Pr)(w:uP H c ep X Y C T L Wt pt ch aj text l)(q:Pr)(hk:0<=q.au/\q.au<=4611686018427387903)(hd:bN q.d=ai)(he:bN q.e=ai):
 ∃r H',W5.call 70 [.ptr (.box c) 0,.agg (bQ q)] H=aa (r,H')/\Ext H H'/\r=.ret (im ((iL (ak aj 0) text l q:Nat):Int)):=by
 obtain⟨_,H2,c1,rfl,rfl⟩:=Nf (H.push (bQ q)) c ep X Y C T L Wt pt ch aj text l (w.mono (.push _ _)) q hk;have hb:=aey (ak aj 0) text l q.au;have c2:=HK q.e ((eY (ak aj 0) text l q.au:Nat):Int);have c3:=DO q.d (ft q.e ((eY (ak aj 0) text l q.au:Nat):Int));have hN:jx q.d (ft q.e ((eY (ak aj 0) text l q.au:Nat):Int))=((iL (ak aj 0) text l q:Nat):Int):=by rw[yg hd (uX he _),ox he];unfold iL;rw[dK];unfold eY;rw[HJ]
 rw[hN] at c3;generalize iL (ak aj 0) text l q=nn at *
 generalize ((eY (ak aj 0) text l q.au:Nat):Int)=bn at *
 generalize ft q.e bn=pw at *
 have b0:=bh H (bQ q);have b1:((H.push (bQ q)).push (bQ q)).boxes[H.boxes.length]?=aa (bQ q):=bA b0;have l0:aI aq Gt (H.push (bQ q)) 3 (.ptr (.box H.boxes.length) 2)=aa (.v (.int .i64 q.d)):=dx fa b0 rfl;have l1:aI aq Gt (H.push (bQ q)) 3 (.ptr (.box H.boxes.length) 3)=aa (.v (.int .i64 q.e)):=dx fa b0 rfl;have l2:=w8 b0;have l0b:aI aq Gt ((H.push (bQ q)).push (bQ q)) 3 (.ptr (.box H.boxes.length) 2)=aa (.v (.int .i64 q.d)):=dx fa b1 rfl;have l1b:aI aq Gt ((H.push (bQ q)).push (bQ q)) 3 (.ptr (.box H.boxes.length) 3)=aa (.v (.int .i64 q.e)):=dx fa b1 rfl;have bc:(AV.agg (bQ q)).cD=aa (bQ q):=rfl;clear w hb hN b0 b1;unfold im at *
 refine da rfl Tryz.func70 rfl ?_;refine bV @Lp @bB ?_;refine my [(1,6),(3,6)] lO aw (λp hp=>?_) ?_
 ·simp only[iq,uM,or_false] at hp;rcases hp with rfl|rfl
  ·refine AP (x:=.ptr (.box H.boxes.length) 2) (v:=.v (.int .i64 q.d)) aw rfl rfl rfl aw (by simp[fe,lY]) ?_ ?_<;>(simp only[gl,fm];exact td @Lp @jg @and_self)
  ·refine AP (x:=.ptr (.box H.boxes.length) 3) (v:=.v (.int .i64 q.e)) aw rfl rfl rfl aw (by simp[fe,lY]) ?_ ?_<;>(simp only[gl,fm];exact td @Lp @jg @and_self)
 refine bV @Lp @jg ?_;exact⟨_,_,rfl,(Ext.push _ _).trans (Ext.push _ _),rfl⟩
end Go.Proofs.YtnfciiiohoafaaaGreatDoor
end
section
set_option linter.constructorNameAsVariable false
namespace Go.Proofs.YtnfciiiohoafaaaGreatDoor
open Go.AE Go.NT
def nZ:Tryz.f48.results.toList=[.tmp 6,.tmp 7]:=aw
def zy(H:ao)(c base:Nat)(cur:AV)(vs:List Vl):Prop:=(vs=[]/\cur=.list .nil 0 [])∨(vs≠[]/\∃(b:Nat) (ae:List (List AV)),cur=.arr b 0 ae.length ae.length/\H.boxes[b]?=aa ae.flatten/\nK vs ae/\b≠c/\base<=b)
def zy.dW{H}{c base}{cur}{vs}(q:zy H c base cur vs):dW aq 94 cur=aa (.v (.int .i64 (vs.length:Nat))):=by
 have u94:=py;unfold Go.AE.dW;rw[u94];rcases q with⟨rfl,rfl⟩|⟨-,b,ae,rfl,-,h3,-⟩
 ·rfl
 ·simp only[h3.1]
def zy.ek{H}{c base}{cur}{vs}(q:zy H c base cur vs):cur.ek=ai:=by rcases q with⟨rfl,rfl⟩|⟨-,b,ae,rfl,-⟩<;>rfl
def sP:List AV:=aJ 0 0 [] .nil 0 []
def nK.four{vs}{ae}(h:nK vs ae):∀r∈ae,r.length=4:=λr hr=>by obtain⟨i,hi⟩:=tT hr;have cK:=(aV.1 hi).1;exact(h.2 i _ r (aT (by rw[<-h.1];exact cK)) hi).len
def nK.snoc{vs}{ae}(h:nK vs ae){v}{r}(hv:cY v r):nK (vs++[v]) (ae++[r]):=by
 refine⟨by simp[h.1],λi w x hw hx=>?_⟩;rcases dV i ae.length with aB|ec
 ·rw[rK aB] at hx;rw[rK (by rw[<-h.1];exact aB)] at hw;exact h.2 i w x hw hx
 ·have:=(aV.1 hx).1;rw[dE] at this;have he:i=ae.length:=by simp at this;omega
  subst he;rw[FH] at hx;rw[h.1,FH] at hw;injection hx with hx;injection hw with hw;subst hx;subst hw;exact hv
def zy.more{h0 H}{c base}{cur}{vs}(q:zy H c base cur vs)(hx:Ext h0 H)(ym:h0.boxes.length<=base)(hc:c<H.boxes.length)(mh:base<=H.boxes.length)(hl:vs.length<1000000){v}{r}(hv:cY v r):
 ∃H2,rF aq H #[94,94] cur (.list .tight 4 [sP])=aa (.arr H.boxes.length 0 (vs.length+1) (vs.length+1),H2)/\H2.boxes.length=H.boxes.length+1/\H2.tn=H.tn/\H2.dead=H.dead/\Ext h0 H2/\
  dG aq 94 (.arr H.boxes.length 0 (vs.length+1) (vs.length+1)) (.v (.int .i64 (vs.length:Nat)))=aa (.ptr (.box H.boxes.length) (vs.length * 4))/\
  (∀(a:Nat) (cs:List AV),H.boxes[a]?=aa cs->(a<base∨a=c)->H2.boxes[a]?=aa cs)/\
  ∃cs,cI aq H2 96 (.ptr (.box H.boxes.length) (vs.length * 4)) (.agg r)=aa (H2.put H.boxes.length cs)/\
  ∀H3,H3.boxes[H.boxes.length]?=aa cs->zy H3 c base (.arr H.boxes.length 0 (vs.length+1) (vs.length+1)) (vs++[v]):=by
 obtain⟨i,q1,q2,q3,q4⟩:=Xs;have ue:=p7 (ah:vs.length+1<=1000000) q3;have u94:=py;have uk:=hv.len;have Wg:dG aq 94 (.arr H.boxes.length 0 (vs.length+1) (vs.length+1)) (.v (.int .i64 (vs.length:Nat)))=aa (.ptr (.box H.boxes.length) (vs.length * 4)):=by unfold dG;simp only[u94,pS];rw[aG ⟨ah,by omega⟩];simp
 rcases q with⟨rfl,rfl⟩|⟨bO,b,ae,rfl,h1,h2,h3,h4⟩
 ·have:=LL (h:=H) (k:=.nil) (sz:=0) (es:=[]) (new:=[sP]) (x:=.list .tight 4 [sP]) py py q1 ah (by rw[q2];exact q4) bH (by simp;omega) bH (.inr rfl) (.inl rfl) (by rw[q2];rfl);refine⟨_,this,cX _ _,rfl,rfl,hx.trans (.push _ _),Wg,λa cs ha _=>bA ha,r,?_,λH3 h3=>.inr ⟨bH,H.boxes.length,[r],rfl,by rw[h3];simp,nK.snoc (vs:=[]) (ae:=[]) ⟨rfl,λi v r q=>by simp at q⟩ hv,by omega,mh⟩⟩;have hg:(H.push ([]++[sP]).flatten).boxes[H.boxes.length]?=aa sP:=bh _ _;exact(ig (off:=0) (cs:=sP) (xs:=r) hv.cells pS hg uk (aM 4)).trans (by rw[xz (by rw[uk];rfl)])
 ·have hf:=nq h2.four;have ji:=h2.1;have lG:0<ae.length:=by rw[ji];exact List.length_pos_iff.2 bO
  rw[<-ji] at ue;have:=RK (h:=H) (b:=b) (len:=ae.length) (cs:=ae.flatten) (new:=[sP]) (x:=.list .tight 4 [sP]) py py q1 ah (by rw[q2];exact q4) bH (by simp;omega) (by simp;omega) h1 lG (by rw[q2,hf]) (by rw[q2];rfl);have aB:=(aV.1 h1).1;rw[show ae.length+[sP].length=vs.length+1 by simp[ji]] at this;refine⟨_,this,by rw[cX,mP],rfl,rfl,(hx.gh ah _).trans (.push _ _),Wg,λa cs ha GZ=>bA ((dg ?_).trans ha),(ae++[r]).flatten,?_,λH3 h5=>.inr ⟨bH,H.boxes.length,ae++[r],by simp[ji],h5,h2.snoc hv,by omega,mh⟩⟩
  ·rcases GZ with z|z
   ·omega
   ·rintro rfl;exact h3 z
  ·have hg:((H.put b []).push (ae.flatten++[sP].flatten)).boxes[H.boxes.length]?=aa (ae.flatten++[sP].flatten):=nb (by rw[mP]);refine(ig (off:=vs.length * 4) (xs:=r) hv.cells pS hg uk ?_).trans ?_
   ·rw[dE,hf,ji];exact aM _
   ·have lH:eT (ae.flatten++[sP].flatten) (vs.length * 4) r=(ae++[r]).flatten:=(by unfold eT;rw[uk,<-ji,<-hf,I4 rfl,pZ (by rw[dE];exact aM _),jX];simp);rw[lH]
def ald:∃h',W4.call 112 [.list .nil 0 []] ⟨[],[],0,[]⟩=aa (.ret (.agg (aJ 3 0 [] .nil 0 [])),h'):=by obtain⟨r,h',c,-,t,sz,ae,rfl,-,-,hn⟩:=PY ⟨[],[],0,[]⟩ vB .nil 0 [] [] .nil (λq=>absurd rfl q) bH (λa ha=>by cases ha);obtain⟨rfl,rfl,rfl⟩:=hn rfl;rw[uK] at c;exact⟨h',c⟩
def akY:∀h,W5.call 112 [.list .nil 0 []] h=aa (.ret (.agg (aJ 3 0 [] .nil 0 [])),h):=by obtain⟨h',c⟩:=ald;exact gH (L:=L5) (cA:=[.list .nil 0 []]) aO (by rw[cr,cr,aD,cd,eU];intro n q;cases q) aO c (by rfl) aO
end Go.Proofs.YtnfciiiohoafaaaGreatDoor
end
section
namespace Go.AE
section
variable {P:Program} {G:Nat->Option (List AV)} {aN:bm->Option (List AV->ao->Option (AV × ao))} {Q:Xt->Env->ao->Prop} {e:Env} {h:ao} {L:List bm} {R:Rec}
def amu{ops:Array Oper}{i n bi bn x1 x2:Nat}{o1 o2:Oper}{t1 t2:TypeId}{a1 a2 v1 v2:Operand}(hn:ops.size - 1=n)(Wv:ops[i]?=aa o1)(WK:o1.op=.store t1 a1 v1)(ho2:ops[n]?=aa o2)(WL:o2.op=.store t2 a2 v2)
 (h1:cP P G R ops (ops.toList.take i) e h (λq ei _=>q=.normal/\ei.eval a1=.ptr (.box bi) x1))
 (h2:cP P G R ops (ops.toList.take n) e h (λq en _=>q=.normal/\en.eval a2=.ptr (.box bn) x2)) (bO:bi≠bn):sK P G R ops e h i=ai:=by
 subst hn;have hi:i<ops.size:=(Array.getElem?_eq_some_iff.1 Wv).1;obtain⟨q1,ei,Ox,e1,rfl,e2⟩:=h1;obtain⟨q2,en,nP,f1,rfl,f2⟩:=h2;rw[<-sI (Nat.le_of_lt hi)] at e1;rw[<-sI ah] at f1;unfold sK;have p1:rn ops i ei=aa bi:=by unfold rn;rw[Wv];simp only[WK,e2]
 have p2:rn ops (ops.size - 1) en=aa bn:=by unfold rn;rw[ho2];simp only[WL,f2]
 simp only[e1,f1,p1,p2];cases hq:jG bi bn with|false=>rfl|true=>exact absurd (jP hq) bO
def aq8{id:Nat}{ops:Array Oper}(i:Nat)(hL:pX aN L)(hi:Nat.blt i ops.size=ai)(bJ:EI ops i=ai)(hd:DF (gK ops i (ops.size - 1)) (Nq P (gK ops i (ops.size - 1)) L) []=ai)
 (oT:sK P G (whole P G aN) ops e h i=ai) (hr:cP P G (whole P G aN) ops ops.toList e h (xX Q)):bM (whole P G aN) (.region id ops ai) e h Q:=by
 have hi:i<ops.size:=by simpa [Nat.blt_eq] using hi
 have fY:=hr;obtain⟨o,en,hn,h1,h2⟩:=fY;cases o with
 |normal=>
  have eH:di P G (whole P G aN) (gK ops i (ops.size - 1)) (bR (gK ops i (ops.size - 1)).size) e h=aa (.normal,en,hn):=by rw[r8,Ct,sI (aM _),<-Array.length_toList,fI];exact h1
  exact run_draw_stores (stores_of hi bJ oT (NK hd (λk hk=>TW hL eH (List.mem_filter.1 hk).2) (λp hp=>nomatch hp))) hr
 |_=>exact h2.elim
def apS{Post:Bool->ao->Prop}{H:ao}{l:Nat}{rec:iN}{args:List AV}(hr:H.loops[l]?=aa rec)(hs:rec.params.size=args.length)(ct:rec.state=.ready)(hp:rec.pending=ar)
 (ha:bM (whole P G aN) rec.assign (nX l rec args) H (λo e1 h1=>o=.normal/\h1=H/\bM (whole P G aN) rec.body e1 (H.busy l rec) (λo _ h2=>h2.loops[l]?=aa {rec with state:=.busy}/\
  ((o=.normal/\Post ai (h2.fx l rec))∨(o=.ret/\Post az (h2.fx l {rec with state:=.done,pending:=aa .ret})))))):
 ∃b H',(whole P G aN).round l args H=aa (.ret (.v (.bool b)),H')/\Post b H':=by
 obtain⟨o,e1,h1,q1,rfl,rfl,o2,e2,h2,q2,q3,q4⟩:=ha;have Ar:{rec with state:=LoopState.ready,pending:=ar}=rec:=by cases rec;cases ct;cases hp;rfl
 rcases q4 with⟨rfl,q4⟩|⟨rfl,q4⟩
 ·refine⟨ai,_,KZ hr hs ⟨_,e1,h1,q1,rfl,rec,hr,ct,.normal,e2,h2,q2,{rec with state:=.busy},q3,rfl,rfl⟩,?_⟩;show Post ai (h2.fx l {rec with state:=LoopState.ready,pending:=ar});rw[Ar];exact q4
 ·exact⟨az,_,KZ hr hs ⟨_,e1,h1,q1,rfl,rec,hr,ct,.ret,e2,h2,q2,{rec with state:=.busy},q3,rfl,rfl⟩,q4⟩
end
end Go.AE
end
section
namespace Go.Proofs.YtnfciiiohoafaaaGreatDoor
open Go.AE Go.NT
def aeb(ep)(k1 k2 k3 k4 k5)(s1 s2 s3 s4 s5)(e1 e2 e3 e4 e5):
 mW aq 98 [(0,.agg (aP ep (.list k1 s1 e1) (.list k2 s2 e2) (.list k3 s3 e3))),(1,.list k4 s4 e4),(2,.list k5 s5 e5),(4,.agg (aJ 3 0 [] .nil 0 []))]=aa (.agg (il ep (.list k1 s1 e1) (.list k2 s2 e2) (.list k3 s3 e3) (.list k4 s4 e4) (.list k5 s5 e5) (.list .nil 0 []) (.list .nil 0 []) 0 0)):=aw
def BL(x:AV)(b:List UInt8):Prop:=∃k s,x=.list k s (bf b)/\(b≠[]->s=1)
def atK(b):(bf b).length=b.length:=bE _
def BL.dW{x}{b}(h:BL x b):dW aq 28 x=aa (.v (.int .i64 (b.length:Nat))):=by obtain⟨k,s,rfl,-⟩:=h;have u28:=jv;unfold Go.AE.dW;rw[u28];simp only[atK]
def PL.ix{x}{l}(h:PL x l){i}(hi:i<l.length):dG aq 29 x (.v (.int .i64 (i:Nat)))=aa (.elem 4 (eS l) i 0):=by obtain⟨k,s,rfl,hs⟩:=h;have bF:s=4:=hs (by intro q;rw[q] at hi;simp at hi);subst bF;have:=a9 (k:=k) (kk:=.i64) (es:=eS l) (a:=((i:Nat):Int)) uO rE ah (by rw[vG];omega);rw[this,dK]
def IL.ix{x}{l}(h:IL x l){i}(hi:i<l.length):dG aq 23 x (.v (.int .i64 (i:Nat)))=aa (.elem 1 (ints l) i 0):=by obtain⟨k,s,rfl,hs⟩:=h;have bF:s=1:=hs (by intro q;rw[q] at hi;simp at hi);subst bF;have:=a9 (k:=k) (kk:=.i64) (es:=ints l) (a:=((i:Nat):Int)) dN fH ah (by rw[dp];omega);rw[this,dK]
structure BI(h H:ao)(ep:Int)(X Y C T L:AV)(kb c:Nat)(cur:AV)(vs:List Vl)(t:Tok):Prop where
 ext:Ext h H
 ok:cO H=ai
 can:dD h.tn H t
 key:H.boxes[kb]?=aa (aP ep X Y C)
 work:H.boxes[c]?=aa (il ep X Y C T L (.list .nil 0 []) cur 0 0)
 la:zy H c (c+1) cur vs
 lo:h.boxes.length<=kb
 lt:kb<c
def BI.push{h H}{ep}{X Y C T L}{kb c}{cur}{vs}{t}(b:BI h H ep X Y C T L kb c cur vs t)(cs):BI h (H.push cs) ep X Y C T L kb c cur vs t:=by
 refine⟨b.ext.trans (.push _ _),b.ok,by rw[Dy];exact b.can,bA b.key,bA b.work,?_,b.lo,b.lt⟩;rcases b.la with q|⟨q,x,ae,q1,q2,q3⟩
 ·exact .inl q
 ·exact .inr ⟨q,x,ae,q1,bA q2,q3⟩
def BI.app{h H}{ep}{X Y C T L}{kb c}{cur}{vs}{t}(b:BI h H ep X Y C T L kb c cur vs t):BI h (H.app t) ep X Y C T L kb c cur vs (.free H.tn):=by
 have gr:=Grown.one b.can b.ok b.ext.tn;refine⟨gr.ext b.ext (aM _),gr.ok,gr.can,by rw[eL];exact b.key,by rw[eL];exact b.work,?_,b.lo,b.lt⟩;rcases b.la with q|⟨q,x,ae,q1,q2,q3⟩
 ·exact .inl q
 ·exact .inr ⟨q,x,ae,q1,by rw[eL];exact q2,q3⟩
def BI.Nv{h H}{ep}{X Y C T L}{kb c}{cur}{vs}{t}(b:BI h H ep X Y C T L kb c cur vs t):c<H.boxes.length:=(aV.1 b.work).1
def as5{H}{c}{ep}{X Y C T L Wt cur x}{pt ch}(hb:H.boxes[c]?=aa (il ep X Y C T L Wt cur pt ch))(hx:x.cD=aa [x]):cI aq H 94 (.ptr (.box c) 10) x=aa (H.put c (il ep X Y C T L Wt x pt ch)):=
 ig (off:=10) (cs:=il ep X Y C T L Wt cur pt ch) (xs:=[x]) hx aw hb rfl (jZ rfl)
def as4{H}{c}{ep}{X Y C T L Wt cur x}{pt ch}(hb:H.boxes[c]?=aa (il ep X Y C T L Wt cur pt ch))(hx:x.cD=aa [x]):cI aq H 23 (.ptr (.box c) 6) x=aa (H.put c (il ep X Y C T L x cur pt ch)):=
 ig (off:=6) (cs:=il ep X Y C T L Wt cur pt ch) (xs:=[x]) hx iW hb rfl (jZ rfl)
def as7{H}{c}{ep}{X Y C T L Wt cur}{pt ch n}(hb:H.boxes[c]?=aa (il ep X Y C T L Wt cur pt ch)):cI aq H 3 (.ptr (.box c) 11) (.v (.int .i64 n))=aa (H.put c (il ep X Y C T L Wt cur n ch)):=
 ig (off:=11) (cs:=il ep X Y C T L Wt cur pt ch) (xs:=[.v (.int .i64 n)]) rfl fH hb rfl (jZ rfl)
def as6{H}{c}{ep}{X Y C T L Wt cur}{pt ch n}(hb:H.boxes[c]?=aa (il ep X Y C T L Wt cur pt ch)):cI aq H 3 (.ptr (.box c) 12) (.v (.int .i64 n))=aa (H.put c (il ep X Y C T L Wt cur pt n)):=
 ig (off:=12) (cs:=il ep X Y C T L Wt cur pt ch) (xs:=[.v (.int .i64 n)]) rfl fH hb rfl (jZ rfl)
def TF:fX aq 94 1 [(0,.agg [vA (Value.int .i64 0),vA (Value.int .i64 0),vA (Value.string (bs [])),vA (Value.slice ar 0 0)])]=aa (.list .tight 4 [sP]):=aw
def BI.next{h H}{ep}{X Y C T L}{kb c}{cur}{vs}{t}(b:BI h H ep X Y C T L kb c cur vs t)(hl:vs.length<1000000){v}{r}(hv:cY v r):
 ∃H2 cs,rF aq H #[94,94] cur (.list .tight 4 [sP])=aa (.arr H.boxes.length 0 (vs.length+1) (vs.length+1),H2)/\
  dG aq 94 (.arr H.boxes.length 0 (vs.length+1) (vs.length+1)) (.v (.int .i64 (vs.length:Nat)))=aa (.ptr (.box H.boxes.length) (vs.length * 4))/\
  cI aq H2 96 (.ptr (.box H.boxes.length) (vs.length * 4)) (.agg r)=aa (H2.put H.boxes.length cs)/\
  cI aq (H2.put H.boxes.length cs) 94 (.ptr (.box c) 10) (.arr H.boxes.length 0 (vs.length+1) (vs.length+1))=aa ((H2.put H.boxes.length cs).put c (il ep X Y C T L (.list .nil 0 []) (.arr H.boxes.length 0 (vs.length+1) (vs.length+1)) 0 0))/\
  BI h ((H2.put H.boxes.length cs).put c (il ep X Y C T L (.list .nil 0 []) (.arr H.boxes.length 0 (vs.length+1) (vs.length+1)) 0 0)) ep X Y C T L kb c (.arr H.boxes.length 0 (vs.length+1) (vs.length+1)) (vs++[v]) t:=by
 have hc:=b.Nv;have qo:=b.lo;have aB:=b.lt;obtain⟨H2,q1,q2,q3,q4,q5,q6,q7,cs,q8,q9⟩:=b.la.more b.ext ah hc ah hl hv;have hw:(H2.put H.boxes.length cs).boxes[c]?=aa (il ep X Y C T L (.list .nil 0 []) cur 0 0):=by rw[dg ah];exact q7 c _ b.work (.inr rfl)
 have hk:((H2.put H.boxes.length cs).put c (il ep X Y C T L (.list .nil 0 []) (.arr H.boxes.length 0 (vs.length+1) (vs.length+1)) 0 0)).boxes[kb]?=aa (aP ep X Y C):=by rw[dg ah,dg ah];exact q7 kb _ b.key (.inl ah)
 refine⟨H2,cs,q1,q6,q8,as5 hw rfl,(q5.gh (by have:=b.ext.len;omega) _).gh ah _,?_,?_,hk,eP (by rw[mP];omega),?_,qo,aB⟩
 ·have:=b.ok;unfold cO at *
  show H2.dead.all (λn=>decide (n<H2.tn))=ai;rw[q3,q4];exact this
 ·have:=b.can;rw[Dz,Dz];rcases this with z|z|⟨m,z,z2,z3⟩
  ·exact .inl z
  ·exact .inr (.inl z)
  ·refine .inr (.inr ⟨m,z,z2,?_⟩);unfold alive at *
   rw[q3,q4];exact z3
 ·refine q9 _ ?_;rw[dg ah];exact eP (by rw[q2];omega)
def amy(p:Pr)(h:∀x∈[p.au,p.no,p.d,p.e],0<=x/\x<=4611686018427387903):∃r,cY p.val r/\∀H,W5.call 112 [.list .tight 1 [[.iface 3 (.v (.int .i64 p.au))],[.iface 3 (.v (.int .i64 p.no))],[.iface 3 (.v (.int .i64 p.d))],[.iface 3 (.v (.int .i64 p.e))]]] H=aa (.ret (.agg r),H):=by
 have:=akX .tight 1 [.iface 3 (.v (.int .i64 p.au)),.iface 3 (.v (.int .i64 p.no)),.iface 3 (.v (.int .i64 p.d)),.iface 3 (.v (.int .i64 p.e))] [.int p.au,.int p.no,.int p.d,.int p.e]
  (.cons (.int _ (h _ bH)) (.cons (.int _ (h _ bH)) (.cons (.int _ (h _ bH)) (.cons (.int _ (h _ bH)) .nil)))) (λ_=>rfl) bH
 simp only[eK,uK] at this;exact this
end Go.Proofs.YtnfciiiohoafaaaGreatDoor
end
