/-
  The engine, part 51: a function that gives a number and takes lists whose cells may lie in boxes: for the call these boxes are lists.
-/
import Derived.Test.YtnfciiiohoafaaaGreatDoorXE
import Derived.Test.YtnfciiiohoafaaaGreatDoorXD
open True renaming intro->aY
open Go renaming FuncId->bq
open Go.Proofs.Tryz renaming prog->aq,underlying23->dY,func157->aeI,underlying22->jf,func59->aeR,underlying28->jJ,underlying94->qD,underlying180->aeS,func158->aeJ,underlying29->wg
open Option renaming none->av,some->aa,map_some->ft
open Bool renaming false->aB,true->ah,and_eq_true->bI,true_and->rT,false_and->yT
open Nat renaming zero_le->cD,reduceEqDiff->aS,add_mul->gZ,le_refl->aL,beq->kK,ble->Oe,eq_of_beq_eq_true->lD,le_of_ble_eq_true->jS,mul_le_mul->ri,lt_or_ge->ez,succ_ne_zero->UI,eq_zero_or_pos->Hc,mul_one->ph
open List renaming getElem?_eq_getElem->aU,mem_of_getElem?->dy,any_append->NU,any_eq_true->GQ,cons_append->lO,take_length->fN,range->bO,range_succ->nD,foldl_append->oI,any_cons->adL,all_cons->GP,length_map->bF,getD_eq_getElem?_getD->eE,all_eq_true->eK,mem_range->gf,length_nil->lP,all_append->BZ,all_eq_false->Es,flatten_append->rX,mem_map->kC,length_take->fm,flatten_cons->pW,length_cons->jd,mem_cons->iU,mem_cons_self->gq,mem_cons_of_mem->fM,getElem?_eq_some_iff->aW,getElem?_take->o7,getElem?_drop->pX,mem_of_mem_take->pY,nil_append->mh,getElem?_append_left->sY,length_append->dM,getElem?_concat_length->GS,getElem?_map->ey,take_of_length_le->gK,replicate->br,take_append_drop->zd,mem_flatten->N5,not_mem_nil->xC,take_left'->Ki,drop_of_length_le->rh,append_nil->jC,getElem?_of_mem->vd,map_cons->eL,ext_getElem?->rW,getElem?_eq_none->u7,getElem?_range->y8,map_nil->wc,getElem_mem->iK,find?_append->NW,take_succ_cons->iV,take_zero->gF
open And renaming intro->az
open Int renaming sub_zero->Er,natCast_zero->tY,toNat_natCast->dW
set_option maxHeartbeats 64000000
set_option maxRecDepth 100000
set_option linter.unusedSimpArgs false
set_option linter.unusedVariables false
set_option linter.constructorNameAsVariable false
set_option linter.defProp false
section
namespace Go.Proofs.YtnfciiiohoafaaaGreatDoor
open Go.AE Go.NT
section
variable {pr:bq->Option (List AV->ar->Option (AV × ar))}
def SQ:Tryz.f159.results.toList=[.tmp 4]:=aw
def amp(tJ:pr 167=av)(g:bq)(aF:List AV)(p:Int->Bool)(h:ar)(x:AV)(l:List Int)(hx:IL x l)(hl:l.length<=1000000)(hp:∀n∈l,(whole aq Gt pr).call g (im n::aF) h=aa (.ret (.v (.bool (p n))),h)):
 ∃r h',(whole Tryz.prog Gt pr).call 167 [x,.func (.func g) [] aF] h=some (r,h')/\h'=h/\∃i:Int,r=.ret (im i)/\decide (0<=i)=l.any p:=by
 obtain⟨k,s,rfl,hs⟩:=hx;have kp:=ao.mk hp;have ks:=ao.mk hs;clear hp hs;have u23:=dY;have z3:=fR;have cY:=dE l;refine di tJ Tryz.func167 rfl ?_;refine bC @vN ?_;refine cH (λm e H=>∃i:Nat,i<=l.length/\m=l.length - i/\(l.take i).any p=aB/\e.get 0=.list k s (ints l)/\e.get 1=.func (.func g) [] aF/\e.get 7=.v (.int .i64 (l.length:Nat))/\e.get 8=.v (.int .i64 (i:Nat))/\e.defers=[]/\H=h) ?_ l.length _ _ ?_;rotate_left 1
 ·refine⟨0,cD _,rfl,by simp,?_,?_,?_,?_,?_,rfl⟩<;>exact gR
 rintro m e H ⟨i,hi,rfl,ha,g0,g1,g7,g8,hd,rfl⟩;have ka:=ao.mk ha;clear ha;by_cases aC:i<l.length
 ·have bD:s=1:=ks.out (by intro q;rw[q] at aC;simp at aC);subst bD;have ld:=ev (H:=H) (s:=1) aC;have hv:l[i]?=aa (al l i):=by rw[aU aC,fB aC]
  have hc:=kp.out (al l i) (dy hv);have fw:(i:Int)<(l.length:Int):=by omega
  have mn:(l.take (i+1)).any p=p (al l i):=by rw[fE hv,NU,ka.out];simp
  have kt:=ao.mk mn;have kh:=ao.mk hv;clear hv mn;unfold im at hc;cases eV:p (al l i) with
  |true=>rw[eV] at hc;have lX:l.any p=ah:=GQ.2 ⟨_,dy kh.out,eV⟩;have kan:=ao.mk lX;clear lX eV;refine cX @vN @bp @lO.{0} ?_;exact⟨_,_,rfl,rfl,(i:Int),rfl,by rw[kan.out];simp⟩
  |false=>rw[eV] at hc;have kt2:(l.take (i+1)).any p=aB:=kt.out.trans eV;clear eV;refine cX @vN @bp @lO.{0} ?_;exact⟨l.length - (i+1),by omega,i+1,by omega,rfl,kt2,by simp⟩
 ·have:i=l.length:=by omega
  subst this;have:=ka.out;rw[fN] at this;have kan:=ao.mk this;clear this;refine bC @vN ?_;exact⟨_,_,rfl,rfl,-1,rfl,by rw[kan.out];rfl⟩
def KF(PD:pr 167=av)(PC:pr 126=av)(g:bq)(aF:List AV)(p:Int->Bool)(h:ar)(x:AV)(l:List Int)(hx:IL x l)(hl:l.length<=1000000)(hp:∀n∈l,(whole aq Gt pr).call g (im n::aF) h=aa (.ret (.v (.bool (p n))),h)):
 (whole aq Gt pr).call 126 [x,.func (.func g) [] aF] h=aa (.ret (.v (.bool (l.any p))),h):=by
 obtain⟨r,h',c,rfl,i,rfl,hi⟩:=amp PD g aF p h x l hx hl hp;have CW:decide (0<=i)=l.any p:=hi;unfold im at c;refine cN PC Tryz.func126 rfl ?_;clear hi hp;exact lV @SM
def avu(tJ:pr 159=av)(Bd:∀a b h,(whole aq Gt pr).call 28 [im a,im b] h=aa (.ret (im (dj a b)),h))(g:bq)(aF:List AV)(f:Nat->Int)(h:ar)(x:AV)(l:List Int)(hx:IL x l)(hl:l.length<=1000000)
 (hp:∀i,i<l.length->(whole aq Gt pr).call g (im (i:Nat)::im (al l i)::aF) h=aa (.ret (im (f i)),h)):
 ∃h',(whole aq Gt pr).call 159 [x,.func (.func g) [] aF] h=aa (.ret (im ((bO l.length).foldl (λx j=>dj x (f j)) 0)),h')/\h'=h:=by
 obtain⟨k,s,rfl,hs⟩:=hx;have kp:=ao.mk (az hp hs);clear hp hs;have u23:=dY;have z3:=fR;have cY:=dE l;unfold im;refine iD tJ Tryz.func159 rfl ?_;refine bC @SQ ?_;refine cH (λm e H=>∃i:Nat,i<=l.length/\m=l.length - i/\e.get 1=.func (.func g) [] aF/\e.get 4=.v (.int .i64 ((bO i).foldl (λx j=>dj x (f j)) 0))/\e.get 7=.list k s (ints l)/\e.get 8=.v (.int .i64 (l.length:Nat))/\e.get 9=.v (.int .i64 (i:Nat))/\e.defers=[]/\H=h) ?_ l.length _ _ ?_;rotate_left 1
 ·refine⟨0,cD _,rfl,?_,?_,?_,?_,?_,?_,rfl⟩<;>exact gR
 rintro m e H ⟨i,hi,rfl,g1,g4,g7,g8,g9,hd,rfl⟩;by_cases aC:i<l.length
 ·have bD:s=1:=kp.out.2 (by intro q;rw[q] at aC;simp at aC);subst bD;have ld:=ev (H:=H) (s:=1) aC;have hc:=kp.out.1 i aC;have ha:=λv=>Bd v (f i) H;have fw:(i:Int)<(l.length:Int):=by omega
  have bT:dj ((bO i).foldl (λx j=>dj x (f j)) 0) (f i)=(bO (i+1)).foldl (λx j=>dj x (f j)) 0:=by rw[nD,oI];rfl
  have kst:=ao.mk bT;clear bT;generalize (bO i).foldl (λx j=>dj x (f j)) 0=acc at *
  unfold im at hc ha;refine cX @SQ @bp @lO.{0} ?_;exact⟨l.length - (i+1),by omega,i+1,by omega,rfl,by trivial,by rw[kst.out],by simp⟩
 ·have:i=l.length:=by omega
  subst this;refine bC @SQ ?_;exact⟨_,rfl,rfl⟩
end
def abI:Tryz.f157.results.toList=[.tmp 2]:=aw
def ass:Tryz.f107.results.toList=[.tmp 2]:=aw
def abA:Tryz.f108.results.toList=[.tmp 2]:=aw
def ast:Tryz.f110.results.toList=[.tmp 4]:=aw
def asG:Tryz.f160.results.toList=[.tmp 5]:=aw
def asK:Tryz.f168.results.toList=[.tmp 2]:=aw
def Mx:Tryz.f129.results.toList=[.tmp 4]:=aw
def SN:Tryz.f130.results.toList=[.tmp 4]:=aw
def as3:Tryz.f57.results.toList=[.tmp 4]:=aw
def ata:Tryz.f77.results.toList=[.tmp 4]:=aw
def apE(x n)(h):W4.call 57 [im x,im n] h=aa (.ret (im (fH x n)),h):=by
 have c:=Py x n;unfold im at *
 refine cN rfl Tryz.func57 rfl ?_;exact lV @as3
def apG(x n)(h):W4.call 77 [im x,im n] h=aa (.ret (im (fH x n)),h):=by
 have c:=Py x n;unfold im at *
 refine cN rfl Tryz.func77 rfl ?_;exact lV @ata
def aoh(n):nS n= !cA n:=by
 unfold nS cA Qi;by_cases h0:n<0
 ·rw[b8 h0,cS (ai:¬0<=n)];rfl
 ·by_cases h1:1073741789<=n
  ·rw[cS h0,b8 h1,b8 (ai:0<=n),cS (ai:¬n<1073741789)];rfl
  ·rw[cS h0,cS h1,b8 (ai:0<=n),b8 (ai:n<1073741789)];rfl
def aof(n)(h):W4.call 157 [im n] h=aa (.ret (.v (.bool (nS n))),h):=by
 unfold im nS;by_cases h0:n<0
 ·refine cN rfl aeI rfl ?_;have:decide (n<0)=ah:=by simp[h0]
  exact jw @abI @Bool.true_or
 ·refine cN rfl aeI rfl ?_;have:decide (n<0)=aB:=by simp[h0]
  exact jw @abI @Bool.false_or
def OD(l:List Int):(!l.any nS)=l.all cA:=by
 induction l with
 |nil=>rfl|cons a l ih=>rw[adL,GP,<-ih,aoh];simp
def aaC(x)(l)(hx:IL x l)(hl:l.length<=1000000)(h):W4.call 107 [x] h=aa (.ret (.v (.bool (l.all cA))),h):=by have c:=KF (pr:=F7) rfl rfl 157 [] nS h x l hx hl (λn _=>aof n h);have hv:(!l.any nS)=l.all cA:=OD l;refine cN rfl Tryz.func107 rfl ?_;clear hx;exact lV @ass
def Wl(h:ar)(x y:AV)(ae:List (List Int))(ag:List Int)(hx:RL x ae)(hy:IL y ag):∃h',W4.call 108 [.agg [x,y]] h=aa (.ret (.v (.int .i64 (bP ae:Nat))),h')/\h'=h.push [x,y]:=by
 obtain⟨k,s,xs,rfl,hs,dR,eG⟩:=hx;have bx:(AV.agg [.list k s (xs.map λa=>[a]),y]).cd=aa [.list k s (xs.map λa=>[a]),y]:=by obtain⟨ky,sy,rfl,-⟩:=hy;rfl
 have l0:=qS (bg h [.list k s (xs.map λa=>[a]),y]);have u23:=dY;have u22:=jf;have z23:=iA;have cY:(xs.map λa=>[a]).length=ae.length:=by rw[bF];exact dR
 refine iD rfl Tryz.func108 rfl ?_;by_cases h0:ae.length=0
 ·have hq:(ae.length:Int)=0:=by omega
  have hc:bP ae=1:=by unfold bP;rw[aH h0]
  rw[hc];clear h0 eG hs dR hc;refine cX @abA @bu @dK ?_;exact⟨_,rfl,rfl⟩
 ·have hq:¬((ae.length:Int)=0):=by omega
  obtain⟨a0,gM⟩:∃a,xs[0]?=aa a:=⟨_,aU ai⟩;obtain⟨r0,gN⟩:∃r,ae[0]?=aa r:=⟨_,aU ai⟩;have bD:s=1:=hs (by intro q;rw[q] at h0;simp at h0);subst bD;have ld0:=mf (H:=h.push [.list k 1 (xs.map λa=>[a]),y]) (s:=1) gM;obtain⟨ka0,sa0,rfl,qQ⟩:=eG 0 a0 r0 gM gN;have hc:bP ae=r0.length:=by unfold bP;rw[aJ h0,eE,gN];rfl
  rw[hc];have cU:=dE r0;have zA:(0:Int)<(ae.length:Int):=by omega
  have z0:(0:Int).toNat=0:=rfl;clear h0 eG hs dR hc gM gN qQ;refine bK @abA @bu @dK @bp ?_;exact⟨_,rfl,rfl⟩
def avY(h:ar)(b i:Nat)(n:Int)(y:AV)(l:List Int)(hb:h.boxes[b]?=aa [y])(hy:IL y l)(hi:i<l.length):W4.call 160 [im (i:Nat),im n,.ptr (.box b) 0] h=aa (.ret (im (df n (al l i))),h):=by
 obtain⟨k,s,rfl,hs⟩:=hy;have bD:s=1:=hs (by intro q;rw[q] at hi;simp at hi);subst bD;have l1:=vG hb;have ld:=ev (H:=h) (s:=1) hi;have u23:=dY;have z3:=fR;have cY:=dE l;have hiI:(i:Int)<(l.length:Int):=by omega
 have c:=aar n (al l i);unfold im at *
 clear hs hb;refine cN rfl Tryz.func160 rfl ?_;exact jw @asG @bp
def avW(h:ar)(x y:AV)(a b:List Int)(hx:IL x a)(hy:IL y b)(hl:a.length<=1000000)(Fc:a.length<=b.length):∃h',W4.call 110 [x,y] h=aa (.ret (im (px a b)),h')/\h'=h.push [y]:=by
 obtain⟨_,c,rfl⟩:=avu (pr:=F7) rfl (λa b h=>Vc a b h) 160 [.ptr (.box h.boxes.length) 0] (λi=>df (al a i) (al b i)) (h.push [y]) x a hx hl (λi hi=>avY (h.push [y]) h.boxes.length i (al a i) y b (bg _ _) hy ai);have cy:y.cd=aa [y]:=by obtain⟨k,s,rfl,-⟩:=hy;rfl
 have e:(bO a.length).foldl (λx j=>dj x (df (al a j) (al b j))) 0=px a b:=rfl;rw[e] at c;unfold im at *
 clear hx hy e;refine iD rfl Tryz.func110 rfl ?_;refine bQ @ast @bu ?_;exact⟨_,rfl,rfl⟩
def awm(n)(h):W4.call 168 [im n] h=aa (.ret (.v (.bool (!bN n))),h):=by
 have c:=ac1 n;unfold im at *
 refine cN rfl Tryz.func168 rfl ?_;exact lV @asK
def Vk(p)(l:List Int):(l.any λn=> !p n)= !l.all p:=by
 induction l with
 |nil=>rfl|cons a l ih=>rw[adL,GP,ih];simp
def oC:Tryz.f115.results.toList=[.tmp 2]:=aw
def aqf(h:ar)(x y:AV)(ae:List (List Int))(ag:List Int)(hx:RL x ae)(hy:IL y ag)(cU:ae.length<=1000000):
 ∃r h',W4.call 115 [.agg [x,y]] h=aa (r,h')/\h'=h.push [x,y]/\r=.ret (.v (.int .i64 (de ae ag))):=by
 obtain⟨k,s,xs,rfl,hs,dR,eG⟩:=hx;obtain⟨ky,sy,rfl,lj⟩:=hy;have kk:=ao.mk (az hs (az eG lj));clear hs eG lj;have u23:=dY;have u22:=jf;have z23:=iA;have z3:=fR;have cY:(xs.map λa=>[a]).length=ae.length:=by rw[bF];exact dR
 have oP:=dE ag;have b0:(h.push [.list k s (xs.map λa=>[a]),.list ky sy (ints ag)]).boxes[h.boxes.length]?=aa [.list k s (xs.map λa=>[a]),.list ky sy (ints ag)]:=bg _ _;have l0:=qS b0;have l1:=DC b0;have bx:(AV.agg [.list k s (xs.map λa=>[a]),.list ky sy (ints ag)]).cd=aa [.list k s (xs.map λa=>[a]),.list ky sy (ints ag)]:=rfl;clear b0;have k1:ao (64<ae.length->de ae ag=2):=⟨λq=>by unfold de;rw[aH (by simp[q])]⟩;have k2:ao (∀(i:Nat) r,ae[i]?=aa r->64<r.length->de ae ag=2):=⟨λi r hr q=>by unfold de;rw[aH];rw[Bool.or_eq_true];exact .inr (GQ.2 ⟨r,dy hr,by simp[q]⟩)⟩;have k3:ao (ae.length<=64->(ae.any λr=>decide (64<r.length))=aB->ae.length≠ag.length->de ae ag=230):=⟨λq1 q2 q3=>by unfold de;rw[aJ (by rw[q2];simp;omega),aH q3]⟩;have k4:ao (ae.length<=64->(ae.any λr=>decide (64<r.length))=aB->ae.length=ag.length->de ae ag=if ((bO ae.length).all (uk ae ag))=ah then (0:Int) else 230):=⟨λq1 q2 q3=>by unfold de;rw[aJ (by rw[q2];simp;omega),aJ (by simpa using q3)];rfl⟩;generalize de ae ag=res at *
 obtain⟨H,hH⟩:∃H,h.push [.list k s (xs.map λa=>[a]),.list ky sy (ints ag)]=H:=⟨_,rfl⟩;rw[hH] at l0 l1;rw[hH];refine di rfl Tryz.func115 rfl ?_;by_cases h1:64<ae.length
 ·have hq:((64:Int)<(ae.length:Int)):=by omega
  have kr:=ao.mk (k1.out h1);clear h1;refine bK @oC @dK @eQ (az @bu @hH) ?_;exact⟨_,_,rfl,rfl,by rw[kr.out]⟩
 have hq:¬((64:Int)<(ae.length:Int)):=by omega
 have K7:ae.length<=64:=by omega
 refine bK @oC @dK @eQ (az @bu @hH) ?_;refine bM.gen λe0 aG bE cZ cV=>?_;have f1:e0.get 1=.ptr (.box h.boxes.length) 0:=by rw[aG];exact gS
 have f3:e0.get 3=.v (.int .i64 (0:Nat)):=by rw[aG];exact gR
 have fd:e0.defers=[]:=by rw[bE];exact gS
 clear aG bE cZ cV bx hq h1 hH;refine cH (λm e H2=>∃i:Nat,i<=ae.length/\m=ae.length - i/\ao (((ae.take i).any λr=>decide (64<r.length))=aB)/\e.get 1=.ptr (.box h.boxes.length) 0/\e.get 3=.v (.int .i64 (i:Nat))/\e.defers=[]/\H2=H) ?_ ae.length _ _ ?_;rotate_left 1
 ·exact⟨0,cD _,rfl,⟨bJ⟩,f1,f3,fd,rfl⟩
 clear f1 f3 fd;rintro m e H ⟨i,hi,rfl,kt,g1,g3,hd,rfl⟩;by_cases aC:i<ae.length
 ·have bD:s=1:=kk.out.1 (by intro q;rw[q] at aC;simp at aC);subst bD;obtain⟨a,fS⟩:∃a,xs[i]?=aa a:=⟨_,aU ai⟩;obtain⟨r,hv⟩:∃r,ae[i]?=aa r:=⟨_,aU aC⟩;have ld:=mf (H:=H) (s:=1) fS;obtain⟨ka,sa,rfl,jj⟩:=kk.out.2.1 i a r fS hv;have wP:=dE r;have fw:(i:Int)<(ae.length:Int):=by omega
  by_cases hb:64<r.length
  ·have hbI:((64:Int)<(r.length:Int)):=(by omega);have kr:=ao.mk (k2.out i r hv hb);clear fS hv jj hb;refine bK @oC @dK @eQ @bp ?_;exact⟨_,_,rfl,rfl,by rw[kr.out]⟩
  ·have hbI:¬((64:Int)<(r.length:Int)):=(by omega);have kt2:ao (((ae.take (i+1)).any λr=>decide (64<r.length))=aB):=⟨by rw[fE hv,NU,kt.out];simp;omega⟩;clear fS hv jj hb;refine bK @oC @dK @eQ @bp ?_;exact⟨ae.length - (i+1),by omega,i+1,by omega,rfl,kt2,by simp⟩
 have gx:i=ae.length:=by omega
 subst gx;have lX:=kt.out;rw[fN] at lX;have kany:=ao.mk lX;clear lX kt hi;by_cases h3:ae.length=ag.length;rotate_left 1
 ·have kr:=ao.mk (k3.out K7 kany.out h3);have hn:¬((ae.length:Int)=(ag.length:Int)):=by omega
  clear h3;refine cX @oC @dK @eQ ?_;exact⟨_,_,rfl,rfl,by rw[kr.out]⟩
 have kres:=ao.mk (k4.out K7 kany.out h3);have kn:=ao.mk h3;have hn:(ag.length:Int)=(ae.length:Int):=by omega
 clear h3;refine cX @oC @dK @eQ ?_;refine bM.gen λe0 aG bE cZ cV=>?_;have f1:e0.get 1=.ptr (.box h.boxes.length) 0:=by rw[aG];simp only[gW,reduceIte,aS,aO];exact g1
 have f4:e0.get 4=.v (.int .i64 (0:Nat)):=by rw[aG];exact gR
 have fd:e0.defers=[]:=by rw[bE];simp only[gW,reduceIte,aS,aO];exact hd
 clear aG bE cZ cV g1 g3 hd aC;refine cH (λm e H2=>∃i:Nat,i<=ae.length/\m=ae.length - i/\ao (∀j,j<i->uk ae ag j=ah)/\e.get 1=.ptr (.box h.boxes.length) 0/\e.get 4=.v (.int .i64 (i:Nat))/\e.defers=[]/\H2=H) ?_ ae.length _ _ ?_;rotate_left 1
 ·exact⟨0,cD _,rfl,⟨λj hj=>absurd hj (Nat.not_lt_zero _)⟩,f1,f4,fd,rfl⟩
 clear f1 f4 fd;rintro m e H3 ⟨i,hi,rfl,kf,g1,g4,hd,rfl⟩;by_cases aC:i<ae.length;rotate_left 1
 ·have gx:i=ae.length:=by omega
  subst gx;have k0:ao (res=0):=⟨by rw[kres.out,aH];rw[eK];intro j hj;exact kf.out j (gf.1 hj)⟩;refine cX @oC @dK @eQ ?_;exact⟨_,_,rfl,rfl,by rw[k0.out]⟩
 have bD:s=1:=kk.out.1 (by intro q;rw[q] at aC;simp at aC);subst bD;have nQ:sy=1:=kk.out.2.2 (by intro q;have h0:=kn.out;rw[q,lP] at h0;omega);subst nQ;obtain⟨a,fS⟩:∃a,xs[i]?=aa a:=⟨_,aU ai⟩;obtain⟨r,hv⟩:∃r,ae[i]?=aa r:=⟨_,aU aC⟩;obtain⟨a0,gM⟩:∃a,xs[0]?=aa a:=⟨_,aU ai⟩;obtain⟨r0,gN⟩:∃r,ae[0]?=aa r:=⟨_,aU ai⟩;have ld:=mf (H:=H3) (s:=1) fS;have ld0:=mf (H:=H3) (s:=1) gM;obtain⟨ka,sa,rfl,jj⟩:=kk.out.2.1 i a r fS hv;obtain⟨ka0,sa0,rfl,qQ⟩:=kk.out.2.1 0 a0 r0 gM gN;have axH:=dE r;have uH:=dE r0;have ldo:=ev (H:=H3) (l:=ag) (i:=i) (s:=1) (by have:=kn.out;omega);have yj:uk ae ag i=(!r.isEmpty&&decide (r.length=r0.length)&&xc (al ag i)&&r.all cA):=by
  unfold uk xc;have g1:ae.getD i []=r:=by rw[eE,hv];rfl
  have g2:ae.getD 0 []=r0:=by rw[eE,gN];rfl
  rw[g1,g2]
 have fI:=ao.mk yj;have kbad:ao (uk ae ag i=aB->res=230):=⟨by intro q;rw[kres.out,aJ];intro z;rw[eK] at z;have:=z i (gf.2 aC);rw[q] at this;cases this⟩;have fw:(i:Int)<(ae.length:Int):=by omega
 have zA:(0:Int)<(ae.length:Int):=by omega
 have z0:(0:Int).toNat=0:=rfl;have ks:=ao.mk jj;have Yi:r.length<=64:=by have q:=kany.out;rw[List.any_eq_false] at q;have:=q r (dy hv);simpa using this
 clear yj fS hv jj gM gN qQ;generalize al ag i=o at *
 by_cases e1:r.length=0
 ·have qj:decide ((r.length:Int)<1)=ah:=b8 ai;have kb:ao (res=230):=⟨kbad.out (by rw[fI.out,List.length_eq_zero_iff.1 e1];rfl)⟩;clear e1;refine bK @oC @dK @eQ @bp ?_;refine eJ xS aw ?_;refine bK @oC @dK @eQ @bp ?_;exact⟨_,_,rfl,rfl,by rw[kb.out]⟩
 have qj:decide ((r.length:Int)<1)=aB:=cS ai;have pE:r.isEmpty=aB:=by cases r with|nil=>exact absurd rfl e1|cons _ _=>rfl
 clear e1;by_cases e2:r.length=r0.length;rotate_left 1
 ·have oR:decide ((r.length:Int)=(r0.length:Int))=aB:=cS ai;have kb:ao (res=230):=⟨kbad.out (by rw[fI.out,pE,cS e2];rfl)⟩;clear e2 pE;refine bK @oC @dK @eQ @bp ?_;refine eJ xS aw ?_;refine bK @oC @dK @eQ @bp ?_;exact⟨_,_,rfl,rfl,by rw[kb.out]⟩
 have oR:decide ((r.length:Int)=(r0.length:Int))=ah:=b8 ai;have ke2:=ao.mk e2;clear e2;by_cases e3:o<0
 ·have Ze:decide (o<0)=ah:=b8 e3;have kb:ao (res=230):=⟨kbad.out (by rw[fI.out];unfold xc;rw[cS (ai:¬0<=o)];simp)⟩;clear e3 pE;refine bK @oC @dK @eQ @bp ?_;refine eJ xS aw ?_;refine bK @oC @dK @eQ @bp ?_;exact⟨_,_,rfl,rfl,by rw[kb.out]⟩
 have Ze:decide (o<0)=aB:=cS e3;by_cases e4:64<=o
 ·have Zf:decide (64<=o)=ah:=b8 e4;have kb:ao (res=230):=⟨kbad.out (by rw[fI.out];unfold xc;rw[cS (ai:¬o<=63)];simp)⟩;clear e3 e4 pE;refine bK @oC @dK @eQ @bp ?_;refine eJ xS aw ?_;refine bK @oC @dK @eQ @bp ?_;exact⟨_,_,rfl,rfl,by rw[kb.out]⟩
 have Zf:decide (64<=o)=aB:=cS e4;have kfin2:ao (uk ae ag i=r.all cA):=⟨by rw[fI.out,pE,b8 ke2.out];unfold xc;rw[b8 (ai:0<=o),b8 (ai:o<=63)];rfl⟩;clear e3 e4 pE;refine bK @oC @dK @eQ @bp ?_;refine eJ xS aw ?_;refine bK @oC @dK @eQ @bp ?_;refine bM.gen λe0 aG bE cZ cV=>?_;have f1:e0.get 1=.ptr (.box h.boxes.length) 0:=by rw[aG];simp only[gW,reduceIte,aS,aO];exact g1
 have f4:e0.get 4=.v (.int .i64 (i:Nat)):=by rw[aG];simp only[gW,reduceIte,aS,aO];exact g4
 have f5:e0.get 5=.v (.int .i64 (0:Nat)):=by rw[aG];exact gR
 have fd:e0.defers=[]:=by rw[bE];simp only[gW,reduceIte,aS,aO];exact hd
 clear aG bE cZ cV g1 g4 hd;refine cH (λm e H2=>∃j:Nat,j<=r.length/\m=r.length - j/\ao ((r.take j).all cA=ah)/\e.get 1=.ptr (.box h.boxes.length) 0/\e.get 4=.v (.int .i64 (i:Nat))/\e.get 5=.v (.int .i64 (j:Nat))/\e.defers=[]/\H2=H3) ?_ r.length _ _ ?_;rotate_left 1
 ·exact⟨0,cD _,rfl,⟨bJ⟩,f1,f4,f5,fd,rfl⟩
 clear f1 f4 f5 fd qj oR Ze Zf ldo ld0;rintro m e H4 ⟨j,hj,rfl,ka4,g1,g4,g5,hd,rfl⟩;by_cases ss:j<r.length
 ·have rF:sa=1:=ks.out (by intro q;rw[q] at ss;simp at ss);subst rF;have ldx:=ev (H:=H4) (s:=1) ss;have oz:r[j]?=aa (al r j):=by rw[aU ss,fB ss]
  have axu:(j:Int)<(r.length:Int):=by omega
  have mn:(r.take (j+1)).all cA=cA (al r j):=by rw[fE oz,BZ,ka4.out];simp
  have kt5:=ao.mk (az mn (dy oz));have Zg:cA (al r j)=(decide (0<=al r j)&&decide (al r j<1073741789)):=rfl;have kqq:=ao.mk Zg;clear oz mn Zg;generalize al r j=n at *
  by_cases d1:n<0
  ·have eM:decide (n<0)=ah:=b8 d1;have kb:ao (res=230):=⟨kbad.out (by rw[kfin2.out,Es];exact⟨n,kt5.out.2,by rw[kqq.out,cS (ai:¬0<=n)];simp⟩)⟩;clear d1;refine bK @oC @dK @eQ @bp ?_;exact⟨_,_,rfl,rfl,by rw[kb.out]⟩
  have eM:decide (n<0)=aB:=cS d1;by_cases d2:1073741789<=n
  ·have iF:decide (1073741789<=n)=ah:=b8 d2;have kb:ao (res=230):=⟨kbad.out (by rw[kfin2.out,Es];exact⟨n,kt5.out.2,by rw[kqq.out,cS (ai:¬n<1073741789)];simp⟩)⟩;clear d1 d2;refine bK @oC @dK @eQ @bp ?_;exact⟨_,_,rfl,rfl,by rw[kb.out]⟩
  have iF:decide (1073741789<=n)=aB:=cS d2;have kt2:ao ((r.take (j+1)).all cA=ah):=⟨by rw[kt5.out.1,kqq.out,b8 (ai:0<=n),b8 (ai:n<1073741789)];rfl⟩;clear d1 d2;refine bK @oC @dK @eQ @bp ?_;exact⟨r.length - (j+1),by omega,j+1,by omega,rfl,kt2,by simp⟩
 ·have ou:j=r.length:=by omega
  subst ou;have eW:=ka4.out;rw[fN] at eW;have kf2:ao (∀j,j<i+1->uk ae ag j=ah):=⟨λj hj=>by
   rcases Nat.lt_succ_iff_lt_or_eq.1 hj with q|q
   ·exact kf.out j q
   ·rw[q,kfin2.out];exact eW⟩
  clear eW;refine bK @oC @dK @eQ @bp ?_;exact⟨ae.length - (i+1),by omega,i+1,by omega,rfl,kf2,by simp⟩
end Go.Proofs.YtnfciiiohoafaaaGreatDoor
end
section
namespace Go.AE
open Go.RowKit (Below)
def yE(z:Nat)(cs:List AV)(off len:Nat):List (List AV):=(bO len).map λi=>(cs.drop (off+i * z)).take z
def Ms(z)(cs)(off):∀len,(yE z cs off len).flatten=(cs.drop off).take (len * z)
 |0=>by simp[yE]
 |n+1=>by
  have ih:=Ms z cs off n;unfold yE at *
  rw[nD,List.map_append,rX,ih,gZ,Nat.one_mul,List.take_add,List.drop_drop];simp
def asi(z)(cs)(off len):(yE z cs off len).length=len:=by unfold yE;simp
def asj{z}{cs}{off len}(h:off+len * z<=cs.length):∀r∈yE z cs off len,r.length=z:=by intro r hr;unfold yE at hr;obtain⟨i,hi,rfl⟩:=kC.1 hr;have hi:=gf.1 hi;have:(i+1) * z<=len * z:=Nat.mul_le_mul_right _ hi;rw[gZ] at this;rw[fm,List.length_drop];omega
mutual
def lT(z:Nat)(h:ar):AV->AV
 | .list k sz es=>.list (bX k) sz (sd z h es)
 | .arr b off len aF=>match h.boxes[b]? with
  |some cs=>if off+len * z<=cs.length/\0<z then .list .held z (fj (yE z cs off len)) else .arr b off len aF
  |none=>.arr b off len aF
 | .tuple cs=>.tuple (mL z h cs)
 | .agg cs=>.agg (mL z h cs)
 | .iface t x=>.iface t (lT z h x)
 |x=>x
def mL(z:Nat)(h:ar):List AV->List AV
 | []=>[]
 |x::r=>lT z h x::mL z h r
def sd(z:Nat)(h:ar):List (List AV)->List (List AV)
 | []=>[]
 |r::rs=>mL z h r::sd z h rs
end
section
variable {z:Nat} {h:ar}
def Xk:∀a b:List AV,mL z h (a++b)=mL z h a++mL z h b
 | [],b=>rfl
 |x::a,b=>by rw[lO,mL,Xk a b,mL,lO]
def KZ:∀es:List (List AV),(sd z h es).flatten=mL z h es.flatten
 | []=>rfl
 |r::es=>by rw[sd,pW,pW,Xk,KZ es]
def Xm:∀a:List AV,(mL z h a).length=a.length
 | []=>rfl
 |x::a=>by rw[mL,jd,Xm a,jd]
def Xn:∀a:List (List AV),(sd z h a).length=a.length
 | []=>rfl
 |x::a=>by rw[sd,jd,Xn a,jd]
def Xo{sz:Nat}:∀{es:List (List AV)},(∀r∈es,r.length=sz)->∀r∈sd z h es,r.length=sz
 | [],_,r,hr=>by cases hr
 |a::es,hh,r,hr=>by
  rw[sd] at hr;rcases iU.1 hr with rfl|hr
  ·rw[Xm];exact hh a gq
  ·exact Xo (λr hr=>hh r (fM _ hr)) r hr
def aka(x:AV):(lT z h x).eH=x.eH:=by
 cases x with
 |arr b off len aF=>
  rw[lT];split
  ·split<;>rfl
  ·rfl
 |_=>rfl
def Xl:∀a:List AV,(mL z h a).all AV.eH=a.all AV.eH
 | []=>rfl
 |x::a=>by rw[mL,GP,aka,Xl a,GP]
end
section
variable {P:Program} {G:Nat->Option (List AV)} {ok:bq->Nat->Code->Bool} {w0 w w':World} {K:a8} {h:ar} {z:Nat}
def a8.still(K:a8)(w:World):a8:={K with base:=w.heap.size,β:=[],γ:=[],tn:=0,md:=[],ic:=λg j=>w.cell? ⟨g,j,av⟩}
def JJ(s:b9 K G ok w0 h w):∀g j c,K.ic g j=aa c->(K.still w).ic g j=aa c:=s.ic
mutual
def a9.oi(s:b9 K G ok w0 h w):∀{x:AV} {c:Value},a9 K x c->aK 0 0 0 (lT z h x)=ah->a9 (K.still w) (lT z h x) c
 |_,_,.bad c,_=>.bad c
 |_,_,.v x hx,_=>.v x hx
 |_,_,.nil sz,_=>.nil sz
 |_,_,.jH sz a,_=>.jH sz a
 |_,_,.list k sz es g off m aF cells hn hr hv hc ht ha,hf=>by
  simp only[lT,aK,bI] at hf;have oz:=aV.oi s hv (by rw[<-KZ,um];exact hf.2);rw[<-KZ] at oz;have uE:m=(sd z h es).length:=by rw[Xn];exact hn
  have qb:(sd z h es).flatten.all AV.eH=ah:=by rw[KZ,Xl];exact ha
  have jO:=Xo (z:=z) (h:=h) hr;have CU:=λj c hj=>s.ic _ _ _ (hc j c hj);cases k with|nil=>exact ht.2.elim|tight=>exact .list .tight sz _ g off m aF cells uE jO oz CU ⟨ht.1,ht.2⟩ qb|free i=>exact .list .held sz _ g off m aF cells uE jO oz CU ⟨ht.1,aY⟩ qb|held=>exact .list .held sz _ g off m aF cells uE jO oz CU ⟨ht.1,aY⟩ qb
 |_,_,.arr b g off len aF fP iX hb hl qc ho hr,hf=>by
  simp only[lT] at hf ⊢;cases cI:h.boxes[b]? with
  |none=>rw[cI] at hf;simp[aK] at hf|some cs=>
   rw[cI] at hf;simp only at hf ⊢;split at hf
   ·rename_i eX;rw[aH eX];obtain⟨eX,hz⟩:=eX;obtain⟨q1,q2,q3,cells,e,q4,q5⟩:=s.box b g cs hb cI;have alH:=q5.le;by_cases h0:aF=0
    ·have:len=0:=(by omega);subst this;exact .list .held z [] g fP 0 iX [] rfl (λ_ h=>by cases h) .nil (λ_ _ h=>by simp at h) ⟨cD _,aY⟩ rfl
    ·have Bt:fP=off:=by rcases ho with p|p<;>omega
     subst Bt;have hv:aV K ((cs.drop fP).take (len * z)) (((cells.toList.take cs.length).drop fP).take (len * z)):=(q5.1.drop fP).take (len * z);have oz:=aV.nh (K2:=K.still w) (JJ s) (aV.hold hv) (by simp only[aK,bI] at hf;have:=hf.2;rw[<-um,Fu,Ms] at this;exact this);rw[<-Ms,<-Fu] at oz;refine .list .held z _ g fP len iX (((cells.toList.take cs.length).drop fP).take (len * z)) (by rw[Ix,asi]) (Ls (asj eX)) oz (λj c hj=>?_) ⟨ai,aY⟩ ?_
     ·have ov:j<len * z:=(by have:=(aW.1 hj).1;rw[fm] at this;omega);rw[o7,aH ov,pX,o7,aH ai] at hj;show w.cell? ⟨g,fP+j,av⟩=aa c;rw[tw q4];simpa using hj
     ·rw[Fu,QI,Ms];rw[eK] at q3 ⊢;exactλx hx=>q3 x (List.mem_of_mem_drop (pY hx))
   ·simp[aK] at hf
 |_,_,.agg cs vs hv,hf=>.agg _ vs (aV.oi s hv (by simpa only[lT,aK] using hf))
 |_,_,.tuple cs vs hv,hf=>.tuple _ vs (aV.oi s hv (by simpa only[lT,aK] using hf))
 |_,_,.box b g off hb,hf=>by simp[lT,aK] at hf
 |_,_,.fb g off,_=>.fb g off
 |_,_,.elem sz es i off g o p cells hr hv hc hi hp ha,hf=>.elem sz es i off g o p cells hr (aV.nh (JJ s) hv (by rw[um];simpa only[lT,aK] using hf)) (λj c hj=>s.ic _ _ _ (hc j c hj)) hi hp ha
 |_,_,.func fn first aF fs cs h1 h2,hf=>by simp only[lT,aK,bI] at hf;exact .func fn first aF fs cs (aV.nh (JJ s) h1 hf.1) (aV.nh (JJ s) h2 hf.2)
 |_,_,.yield l g hl,hf=>by simp[lT,aK] at hf
 |_,_,.iface t x c hx,hf=>by simp only[lT,aK] at hf;exact .iface t _ c (a9.oi s hx hf)
def aV.oi(s:b9 K G ok w0 h w):∀{xs:List AV} {cs:List Value},aV K xs cs->aR 0 0 0 (mL z h xs)=ah->aV (K.still w) (mL z h xs) cs
 |_,_,.nil,_=>.nil
 |_,_,.cons x c xs cs hx hs,hf=>by simp only[mL,aR,bI] at hf;exact .cons _ c _ cs (a9.oi s hx hf.1) (aV.oi s hs hf.2)
end
def b9.still(s:b9 K G ok w0 h w)(hG:∀g cs,G g=aa cs->aR 0 0 0 cs=ah):b9 (K.still w) G ok w ⟨[],[],0,[]⟩ w:=by
 refine⟨Below.refl _ _,aL _,λg j c hc=>hc,λg cs hg=>?_,rfl,λb b' g hb=>by simp[a8.still] at hb,λb g cs hb=>by simp[a8.still] at hb,rfl,λb b' g hb=>by simp[a8.still] at hb,λl g r hl=>by simp[a8.still] at hl,rfl,λt ht=>?_,λt t' ht=>?_,λr hr=>by simp[a8.still] at hr,rfl⟩
 ·obtain⟨cells,q1,q2⟩:=s.fb g cs hg;exact⟨cells,aV.nh (K1:=K) (K2:=K.still w) (JJ s) q1 (hG g cs hg),λj c hj=>s.ic _ _ _ (q2 j c hj)⟩
 ·simp[alive] at ht
 ·simp[alive] at ht
def KY(z:Nat)(R:Rec)(g:bq)(args:List AV)(h:ar):Option (AV × ar):=
 if aR 0 0 0 (mL z h args)=ah then
  match R.call g (mL z h args) ⟨[],[],0,[]⟩ with
  |some (.ret (.v y),_)=>aa (.v y,h)
  |_=>av
 else av
def akb{aQ:bq->Option (List AV->ar->Option (AV × ar))}(hp:Prog P)(hG:∀g cs,G g=aa cs->aR 0 0 0 cs=ah)(pK:∀V g p,aQ g=aa p->ue P G V g p){g:bq}(iG:∃fn,P.funcs[g]?=aa fn/\fn.body.isSome=ah)(V:World):
 ue P G V g (KY z (whole P G aQ) g):=by
 refine⟨iG,λargs h x h' hx K w fJ hv hs cs=>?_⟩;unfold KY at hx;split at hx
 ·rename_i hf;split at hx
  ·rename_i y h2 hc;injection hx with hx;injection hx with ZB tM;subst ZB;subst tM;obtain⟨-,IE⟩:=(TW hp (pK w)).call g _ _ _ _ hc;have s0:=b9.still hs hG;obtain⟨K1,w',fr,le,s1,bT,yk,v,rG,eX⟩:=IE (K.still w) w fJ (aV.oi hs hv hf) s0 cs;have hb:Below w.heap.size w w':=(by have:=s1.dw;rwa [le.base] at this);refine⟨.returned v,w',fr,⟨v,_,rfl,a8.RC hs,?_,b9.sees hs hb⟩,bT,yk,eX⟩;cases rG with|v _ q=>exact .v _ q
  ·cases hx
 ·cases hx
def BG(z:Nat)(R:Rec)(L M:List bq)(g:bq):Option (List AV->ar->Option (AV × ar)):=if L.contains g=ah then aa (EL R g) else if M.contains g=ah then aa (KY z R g) else av
def anN{aQ:bq->Option (List AV->ar->Option (AV × ar))}(hp:Prog P)(hG:∀g cs,G g=aa cs->aR 0 0 0 cs=ah)(pK:∀V g p,aQ g=aa p->ue P G V g p){L M:List bq}(hL:∀g∈L,∃fn,P.funcs[g]?=aa fn/\fn.body.isSome=ah)(hM:∀g∈M,∃fn,P.funcs[g]?=aa fn/\fn.body.isSome=ah):
 ∀V g p,BG z (whole P G aQ) L M g=some p->ue P G V g p:=by
 intro V g p he;unfold BG at he;split at he
 ·rename_i hg;injection he with he;subst he;exact VY hp hG pK (hL g (by simpa using hg)) V
 ·split at he
  ·rename_i hg;injection he with he;subst he;exact akb hp hG pK (hM g (by simpa using hg)) V
  ·cases he
def ig{R:Rec}{L M:List bq}{g:bq}{args b7:List AV}{x y:AV}{h1:ar}(hg:L.contains g=ah)(ha:bZ args=b7)(hf:aR 0 0 0 b7=ah)(hc:R.call g b7 ⟨[],[],0,[]⟩=aa (.ret y,h1))(hy:gX h1 y=x)(hx:aK 0 0 0 x=ah):
 ∀h,(whole P G (BG z R L M)).call g args h=aa (.ret x,h):=by
 intro h;subst ha;subst hy;rw[JT];unfold sf BG;rw[aH hg];simp only[EL,FU,aH hf,hc,aH hx,ft]
def aj9{R:Rec}{L M:List bq}{g:bq}{args b7:List AV}{y:Value}{h h1:ar}(hg:L.contains g=aB)(hm:M.contains g=ah)(ha:mL z h args=b7)(hf:aR 0 0 0 b7=ah)(hc:R.call g b7 ⟨[],[],0,[]⟩=aa (.ret (.v y),h1)):
 (whole P G (BG z R L M)).call g args h=aa (.ret (.v y),h):=by
 subst ha;rw[JT];unfold sf BG;rw[aJ (by rw[hg];exact Bool.false_ne_true),aH hm];simp only[KY,aH hf,hc];rfl
end
end Go.AE
end
section
namespace Go.Proofs.YtnfciiiohoafaaaGreatDoor
open Go.AE Go.NT
def abW:Tryz.f59.results.toList=[.tmp 2]:=aw
def MS:Tryz.f92.results.toList=[.tmp 2]:=aw
def abU:Tryz.f42.results.toList=[.tmp 2]:=aw
def aaB(n:Int)(h:ar):W4.call 59 [im n] h=aa (.ret (.v (.bool (cA n))),h):=by
 unfold im cA Qi;by_cases h0:0<=n
 ·refine cN rfl aeR rfl ?_;have:decide (0<=n)=ah:=by simp[h0]
  exact jw @abW @rT
 ·refine cN rfl aeR rfl ?_;have:decide (0<=n)=aB:=by simp[h0]
  exact jw @abW @yT
def an9(h:ar)(x:AV)(l:List Int)(hx:IL x l)(hl:l.length<=9223372036854775807):∃r h',W4.call 92 [x] h=aa (r,h')/\h'=h/\r=.ret (.v (.bool (l.all cA))):=by
 obtain⟨k,s,rfl,hs⟩:=hx;have ks:=ao.mk hs;clear hs;have u23:=dY;have z3:=fR;have cY:=dE l;refine di rfl Tryz.func92 rfl ?_;refine bC @MS ?_;refine cH (λm e H=>∃i:Nat,i<=l.length/\m=l.length - i/\ao ((l.take i).all cA=ah)/\e.get 0=.list k s (ints l)/\e.get 3=.v (.int .i64 (i:Nat))/\e.defers=[]/\H=h) ?_ l.length _ _ ?_;rotate_left 1
 ·refine⟨0,cD _,rfl,⟨bJ⟩,?_,?_,?_,rfl⟩<;>exact gR
 rintro m e H ⟨i,hi,rfl,ka,g0,g3,hd,rfl⟩;by_cases aC:i<l.length
 ·have bD:s=1:=ks.out (by intro q;rw[q] at aC;simp at aC);subst bD;have ld:=ev (H:=H) (s:=1) aC;have hv:l[i]?=aa (al l i):=by rw[aU aC,fB aC]
  have fw:(i:Int)<(l.length:Int):=by omega
  have mn:(l.take (i+1)).all cA=cA (al l i):=by rw[fE hv,BZ,ka.out];simp
  have kt:=ao.mk (az mn (dy hv));have c:=aaB (al l i) H;unfold im at c;clear hv mn;generalize al l i=n at *
  cases hq:cA n with
  |false=>have kf:ao (l.all cA=aB):=⟨by rw[Es];exact⟨n,kt.out.2,by simp[hq]⟩⟩;rw[hq] at c;clear hq;refine bQ @MS @bp ?_;exact⟨_,_,rfl,rfl,by rw[kf.out]⟩
  |true=>have kt2:ao ((l.take (i+1)).all cA=ah):=⟨by rw[kt.out.1,hq]⟩;rw[hq] at c;clear hq;refine bQ @MS @bp ?_;exact⟨l.length - (i+1),by omega,i+1,by omega,rfl,kt2,by simp⟩
 ·have:i=l.length:=by omega
  subst this;have:=ka.out;rw[fN] at this;have kan:=ao.mk this;clear this;refine bC @MS ?_;exact⟨_,_,rfl,rfl,by rw[kan.out]⟩
def aih(h:ar)(x y:AV)(ae:List (List Int))(ag:List Int)(hx:RL x ae)(hy:IL y ag):∃h',W4.call 42 [.agg [x,y]] h=aa (.ret (.v (.int .i64 (bP ae:Nat))),h')/\h'=h.push [x,y]:=by
 obtain⟨k,s,xs,rfl,hs,dR,eG⟩:=hx;have bx:(AV.agg [.list k s (xs.map λa=>[a]),y]).cd=aa [.list k s (xs.map λa=>[a]),y]:=by obtain⟨ky,sy,rfl,-⟩:=hy;rfl
 have l0:=qS (bg h [.list k s (xs.map λa=>[a]),y]);have u23:=dY;have u22:=jf;have z23:=iA;have cY:(xs.map λa=>[a]).length=ae.length:=by rw[bF];exact dR
 refine iD rfl Tryz.func42 rfl ?_;by_cases h0:ae.length=0
 ·have hq:(ae.length:Int)=0:=by omega
  have hc:bP ae=1:=by unfold bP;rw[aH h0]
  rw[hc];clear h0 eG hs dR hc;refine cX @abU @bu @dK ?_;exact⟨_,rfl,rfl⟩
 ·have hq:¬((ae.length:Int)=0):=by omega
  obtain⟨a0,gM⟩:∃a,xs[0]?=aa a:=⟨_,aU ai⟩;obtain⟨r0,gN⟩:∃r,ae[0]?=aa r:=⟨_,aU ai⟩;have bD:s=1:=hs (by intro q;rw[q] at h0;simp at h0);subst bD;have ld0:=mf (H:=h.push [.list k 1 (xs.map λa=>[a]),y]) (s:=1) gM;obtain⟨ka0,sa0,rfl,qQ⟩:=eG 0 a0 r0 gM gN;have hc:bP ae=r0.length:=by unfold bP;rw[aJ h0,eE,gN];rfl
  rw[hc];have cU:=dE r0;have zA:(0:Int)<(ae.length:Int):=by omega
  have z0:(0:Int).toNat=0:=rfl;clear h0 eG hs dR hc gM gN qQ;refine bK @abU @bu @dK @bp ?_;exact⟨_,rfl,rfl⟩
def Wb(x y)(ae)(ag)(hx:RL x ae)(hy:IL y ag):∀h,W4.call 97 [.agg [x,y]] h=aa (.ret (.v (.int .i64 (de ae ag))),h):=by obtain⟨h1,h2⟩:=hx.fD;obtain⟨h3,h4⟩:=hy.hold;exact bm (L:=L4) (b7:=[.agg [aD x,aD y]]) rfl rfl (by simp[aR,aK,h2,h4]) (ahR (aD x) (aD y) ae ag h1 h3 _) rfl rfl
def KN{b}:gH aq 81 (.ptr (.box b) 0) 0=aa (.ptr (.box b) 0):=aw
def KO{b}:gH aq 81 (.ptr (.box b) 0) 1=aa (.ptr (.box b) 1):=aw
def Ru{H}{b}{x y}(hb:H.boxes[b]?=aa [x,y]):aI aq Gt H 3 (.ptr (.box b) 0)=aa x:=by rw[mT fh hb];rfl
def Rv{H}{b}{x y}(hb:H.boxes[b]?=aa [x,y]):aI aq Gt H 3 (.ptr (.box b) 1)=aa y:=by rw[mT fh hb];rfl
def RL.cd{x}{ae}(h:RL x ae):x.cd=aa [x]:=by obtain⟨k,s,xs,rfl,-⟩:=h.form;rfl
def IL.cd{x}{l}(h:IL x l):x.cd=aa [x]:=by obtain⟨k,s,rfl,-⟩:=h;rfl
def tU{x y}{ae}{ag}(hx:RL x ae)(hy:IL y ag):(AV.agg [x,y]).cd=aa [x,y]:=by obtain⟨k,s,xs,rfl,-⟩:=hx.form;obtain⟨ky,sy,rfl,-⟩:=hy;rfl
def RL.dQ{x}{ae}(h:RL x ae):dQ aq 22 x=aa (.v (.int .i64 (ae.length:Nat))):=by obtain⟨k,s,xs,rfl,hl⟩:=h.form;have u22:=jf;unfold Go.AE.dQ;rw[u22];simp only[bF,hl]
def IL.dQ{x}{l}(h:IL x l):dQ aq 23 x=aa (.v (.int .i64 (l.length:Nat))):=by obtain⟨k,s,rfl,-⟩:=h;have u23:=dY;unfold Go.AE.dQ;rw[u23];simp only[dE]
def jD(ae:List (List Int))(ag aj:List Int):Int:=if de ae ag≠0 then de ae ag else if decide (aj.length=bP ae)&&aj.all bN then 0 else 340
def aiY(h:ar)(x y z:AV)(ae:List (List Int))(ag aj:List Int)(hx:RL x ae)(hy:IL y ag)(hz:IL z aj)(hl:aj.length<=1000000):
 ∃r h',W4.call 129 [.agg [x,y],z] h=aa (r,h')/\Ext h h'/\r=.ret (.v (.int .i64 (jD ae ag aj))):=by
 have bx:=tU hx hy;have c1:=Wb x y ae ag hx hy;obtain⟨_,c2,rfl⟩:=Wl (h.push [x,y]) x y ae ag hx hy;have c3:=KF (pr:=F7) rfl rfl 168 [] (λn=> !bN n) ((h.push [x,y]).push [x,y]) z aj hz hl (λn _=>awm n _);have l0:=uM (bg h [x,y]);have ln:=hz.dQ;have hp:∀q,q≠0->de ae ag=q->jD ae ag aj=q:=λq h1 h2=>by unfold jD;rw[aH (by rw[h2];exact h1),h2]
 have cZ:de ae ag=0->jD ae ag aj=if decide (aj.length=bP ae)&&aj.all bN then 0 else 340:=λh2=>by unfold jD;rw[aJ (by simp[h2])]
 have kp:=ao.mk (az hp cZ);clear hp cZ hx hy hz;rw[Vk] at c3;generalize jD ae ag aj=res at *
 refine di rfl Tryz.func129 rfl ?_;by_cases h0:de ae ag=0
 ·rw[h0] at c1;have k0:=kp.out.2 h0;clear h0;by_cases h1:aj.length=bP ae
  ·have hq:decide ((aj.length:Int)=((bP ae:Nat):Int))=ah:=b8 ai;rw[b8 h1,rT] at k0;clear h1;cases h2:aj.all bN with
   |true=>rw[h2] at c3 k0;have kr:=ao.mk k0;clear h2 k0;refine bQ @Mx @bu ?_;exact⟨_,_,rfl,(Ext.push _ _).trans (Ext.push _ _),by rw[kr.out];rfl⟩
   |false=>rw[h2] at c3 k0;have kr:=ao.mk k0;clear h2 k0;refine bQ @Mx @bu ?_;exact⟨_,_,rfl,(Ext.push _ _).trans (Ext.push _ _),by rw[kr.out];rfl⟩
  ·have hq:decide ((aj.length:Int)=((bP ae:Nat):Int))=aB:=cS ai;rw[cS h1,yT] at k0;have kr:=ao.mk k0;clear h1 k0;refine bQ @Mx @bu ?_;exact⟨_,_,rfl,(Ext.push _ _).trans (Ext.push _ _),by rw[kr.out];rfl⟩
 ·have kr:=ao.mk (kp.out.1 _ h0 rfl);clear kp c2 c3;generalize de ae ag=q at *
  refine bQ @Mx @bu ?_;exact⟨_,_,rfl,Ext.push _ _,by rw[kr.out]⟩
def uR(ae:List (List Int))(p:Int × Int):Bool:=decide (0<=p.1)&&decide (p.1<ae.length)&&cA p.2
def LF(n):IL (.list .tight 1 [[.v (.int .i64 n)]]) [n]:=⟨.tight,1,rfl,λ_=>rfl⟩
def aqZ(h:ar)(x y:AV)(ae:List (List Int))(ag:List Int)(hx:RL x ae)(hy:IL y ag)(a v:Int):
 ∃r h',W4.call 130 [.agg [x,y],.agg [im a,im v]] h=aa (r,h')/\Ext h h'/\r=.ret (.v (.bool (uR ae (a,v)))):=by
 have bx:=tU hx hy;have b2:(AV.agg [im a,im v]).cd=aa [im a,im v]:=rfl;have l0:aI aq Gt ((h.push [x,y]).push [im a,im v]) 22 (.ptr (.box h.boxes.length) 0)=aa x:=qS (bh (bg h [x,y]));have l1:=Ru (bg (h.push [x,y]) [im a,im v]);have l2:=Rv (bg (h.push [x,y]) [im a,im v]);have c:=aaC (.list .tight 1 [[.v (.int .i64 v)]]) [v] (LF v) bJ ((h.push [x,y]).push [im a,im v]);rw[(bJ:[v].all cA=cA v)] at c;have bl:=pq v;have ln:=hx.dQ;clear hx hy;unfold uR;simp only;refine di rfl Tryz.func130 rfl ?_;unfold im at *
 by_cases h1:0<=a
 ·have d1:decide (0<=a)=ah:=b8 h1;by_cases h2:a<ae.length
  ·have d2:decide (a<(ae.length:Int))=ah:=b8 h2;rw[d1,d2];clear h1 h2;refine bK @SN @bu @dK (az @KN @KO) ?_;exact⟨_,_,rfl,(Ext.push _ _).trans (Ext.push _ _),rfl⟩
  ·have d2:decide (a<(ae.length:Int))=aB:=cS h2;rw[d1,d2];clear h1 h2;refine bK @SN @bu @dK (az @KN @KO) ?_;exact⟨_,_,rfl,(Ext.push _ _).trans (Ext.push _ _),rfl⟩
 ·have d1:decide (0<=a)=aB:=cS h1;rw[d1];clear h1;refine bK @SN @bu @dK (az @KN @KO) ?_;exact⟨_,_,rfl,(Ext.push _ _).trans (Ext.push _ _),rfl⟩
def akm(bA b)(k)(hb:b.length<=1099511620000)(ht:bA.length<=1099511620000):∀h,W3.call 78 [.v (.string (bs bA)),.list k 1 (bf b)] h=aa (.ret (im (nj (gO bA b):Nat)),h):=
 bm (L:=L3) (b7:=[.v (.string (bs bA)),.list (bX k) 1 (bf b)]) rfl (by rw[bZ,bZ,aD.eq_1,qO];rfl) (by simp[aR,aK,fx,kL]) (akl bA b _ hb ht _) rfl rfl
def Xu(bA b)(k)(hb:b.length<=1099511620000)(ht:bA.length<=1099511620000):∀h,W4.call 78 [.v (.string (bs bA)),.list k 1 (bf b)] h=aa (.ret (im (nj (gO bA b):Nat)),h):=
 bm (L:=L4) (b7:=[.v (.string (bs bA)),.list (bX k) 1 (bf b)]) rfl (by rw[bZ,bZ,aD.eq_1,qO];rfl) (by simp[aR,aK,fx,kL]) (akm bA b _ hb ht _) rfl rfl
def ajl{v}{r}(hv:dm v r)(hd:gQ v<=16)(hl:(dU v).length<=1099511600000):∃t,∀h,W3.call 146 [.agg r] h=aa (.ret (.tuple [.list t 1 (bf (dU v)),.v (.int .i64 0)]),h):=by obtain⟨h1,h2⟩:=dm.hold v r hv;obtain⟨t,hc⟩:=ajk h1 hd hl;exact⟨bX t,bm (L:=L3) (b7:=[.agg (bZ r)]) rfl rfl (by simpa [aR,aK] using h2) (hc _) rfl (by simp[aK,aR,fx,kL])⟩
def WJ{v}{r}(hv:dm v r)(hd:gQ v<=16)(hl:(dU v).length<=1099511600000):∃t,∀h,W4.call 146 [.agg r] h=aa (.ret (.tuple [.list t 1 (bf (dU v)),.v (.int .i64 0)]),h):=by obtain⟨h1,h2⟩:=dm.hold v r hv;obtain⟨t,hc⟩:=ajl h1 hd hl;exact⟨bX t,bm (L:=L4) (b7:=[.agg (bZ r)]) rfl rfl (by simpa [aR,aK] using h2) (hc _) rfl (by simp[aK,aR,fx,kL])⟩
def Jl:Tryz.f112.results.toList=[.cell 2 96]:=aw
def asu:Tryz.f114.results.toList=[.tmp 4]:=aw
def MQ:Tryz.f79.results.toList=[.tmp 2]:=aw
inductive vZ:AV->Vl->Prop
 |int (n:Int) (hn:0<=n/\n<=4611686018427387903):vZ (.iface 3 (.v (.int .i64 n))) (.int n)
 |text (k:Tok) (s:Nat) (b:List UInt8) (hs:b≠[]->s=1) (hb:b.length<=1099511620000):vZ (.iface 28 (.list k s (bf b))) (.text b)
 |val (v:Vl) (r:List AV) (h:dm v r):vZ (.iface 96 (.agg r)) v
def uX(xs:List AV)(vs:List Vl):Prop:=xs.length=vs.length/\∀(i:Nat) x v,xs[i]?=aa x->vs[i]?=aa v->vZ x v
def uX.nil:uX [] []:=⟨rfl,λi x v h=>by simp at h⟩
def uX.cons{x}{v}{xs}{vs}(h:vZ x v)(hs:uX xs vs):uX (x::xs) (v::vs):=by
 refine⟨by simp[hs.1],λi y w hy hw=>?_⟩;cases i with|zero=>simp at hy hw;subst hy;subst hw;exact h|succ i=>simp at hy hw;exact hs.2 i y w hy hw
def Vt(x):zq aq (.iface 3 x) 3 ah=aa (.tuple [x,.v (.bool ah)]):=aw
def Vs(x):zq aq (.iface 28 x) 3 ah=aa (.tuple [.v (.int .i64 0),.v (.bool aB)]):=aw
def Vr(x):zq aq (.iface 28 x) 28 ah=aa (.tuple [x,.v (.bool ah)]):=aw
def afL(x):zq aq (.iface 96 x) 3 ah=aa (.tuple [.v (.int .i64 0),.v (.bool aB)]):=aw
def afK(x):zq aq (.iface 96 x) 28 ah=aa (.tuple [.list .nil 0 [],.v (.bool aB)]):=aw
def afM(x):zq aq (.iface 96 x) 96 ah=aa (.tuple [x,.v (.bool ah)]):=aw
def KG{k}{s}{b}(hs:b≠[]->s=1)(h):oa aq h 28 9 (.list k s (bf b))=aa (.v (.string (bs b)),h):=by
 have h1:aq.underlying 9=aa .string:=Tryz.underlying9;have h2:aq.underlying 28=aa (.slice 5):=jJ;have h3:aq.underlying 5=aa (.int .u8):=Tryz.underlying5;unfold oa;simp only[h1,h2,h3,rowsOf];rw[aH (by
  by_cases hb:b=[]
  ·exact .inr (by rw[hb];rfl)
  ·exact .inl (hs hb))]
 have yf:∀l:List UInt8,bytesOf (bf l)=aa l:=by
  intro l
  induction l with
  |nil=>rfl|cons a l ih=>show(match Go.AE.byteOf (lQ a),bytesOf (bf l) with|some b,aa l=>aa (b::l)|_,_=>av)=_;rw[ih];simp[Go.AE.byteOf,lQ]
 simp only[yf,ft];rfl
def Cs{r}(hr:r.length=4)(hc:(AV.agg r).cd=aa r):gG aq 94 1 [(0,.agg r)]=aa (.list .tight 4 [r]):=by have h1:aq.underlying 94=aa (.slice 96):=qD;unfold gG;simp only[h1,qW,yQ];rw[aH ⟨aZ,rfl,by decide⟩];simp[EZ,hc,hr]
def ZH:∃i,aq.info? 96=aa i/\i.size=4/\i.bytes<=64/\(i.zero.map λz=>z.cells.size)=aa 4:=by
 have h:(match aq.info? 96 with|some i=>kK i.size 4&&Oe i.bytes 64&&decide ((i.zero.map λz=>z.cells.size)=aa 4)|none=>aB)=ah:=aw;cases hi:aq.info? 96 with
 |none=>rw[hi] at h;cases h
 |some i=>rw[hi] at h;simp only[bI,decide_eq_true_eq] at h;exact⟨i,rfl,lD h.1.1,jS h.1.2,h.2⟩
def Co{H}{k}{n0 sz}{es}{r}(hl:es.length<1000000)(hs:es≠[]->sz=4)(h0:es=[]->sz=4∨k=.nil)(hk:du n0 H k):
 hU aq H #[94,94] (.list k sz es) (.list .tight 4 [r])=aa (.list (.free H.tn) 4 (es++[r]),H.app k):=by
 obtain⟨i,h1,q2,q3,h4⟩:=ZH;have hb:=ri (ai:es.length+1<=1000000) q3;have:=Hs (P:=aq) (h:=H) (n0:=n0) (k:=k) (sz:=sz) (es:=es) (new:=[r]) (x:=.list .tight 4 [r]) (t1:=94) qD (.inl ⟨96,qD⟩) h1 ai (by rw[q2];exact h4) (by rw[q2];rfl) bJ (by simp;omega) (by simp;omega) (by
  rw[q2];by_cases he:es=[]
  ·rcases h0 he with q|q
   ·exact .inl q
   ·exact .inr ⟨he,q⟩
  ·exact .inl (hs he)) hk
 rwa [q2] at this
structure rk(h H:ar)(c:Nat)(vs:List Vl)(t:Tok)(sz:Nat)(ae:List (List AV)):Prop where
 box:H.boxes[c]?=aa (aM 3 0 [] t sz ae)
 can:du h.tn H t
 ok:cK H=ah
 ext:Ext h H
 out:h.boxes.length<=c
 rel:oL vs ae
 four:ae≠[]->sz=4
 nil:ae=[]->sz=4∨t=.nil
 fit:ie 0 0 0 ae=ah
def WW:∀(ae:List (List AV)) (r:List AV),ie 0 0 0 ae=ah->aR 0 0 0 r=ah->ie 0 0 0 (ae++[r])=ah
 | [],r,_,h=>by rw[mh,ie,h];rfl
 |a::ae,r,h1,h2=>by rw[ie,bI] at h1;rw[lO,ie,h1.1,WW ae r h1.2 h2];rfl
def rk.push{h H}{c}{vs}{t}{sz}{ae}(g:rk h H c vs t sz ae)(cs):rk h (H.push cs) c vs t sz ae:=
 ⟨bh g.box,by rw[AZ];exact g.can,g.ok,g.ext.trans (.push _ _),g.out,g.rel,g.four,g.nil,g.fit⟩
def rk.put{h H}{c}{vs}{t}{sz}{ae}(g:rk h H c vs t sz ae){v}{r}(hv:dm v r)(hf:aR 0 0 0 r=ah):
 rk h ((H.app t).put c (aM 3 0 [] (.free H.tn) 4 (ae++[r]))) c (vs++[v]) (.free H.tn) 4 (ae++[r]):=by
 have hc:=(aW.1 g.box).1;have gr:=Grown.one g.can g.ok g.ext.tn;refine⟨eO (by rw[eC];exact hc),by rw[Cv];exact gr.can,gr.ok,(gr.ext g.ext (aL _)).fZ g.out _,g.out,⟨by simp[g.rel.1],λi w x hw hx=>?_⟩,λ_=>rfl,λ_=>.inl rfl,WW _ _ g.fit hf⟩;rcases ez i ae.length with aC|eF
 ·rw[sY aC] at hx;rw[sY (by rw[<-g.rel.1];exact aC)] at hw;exact g.rel.2 i w x hw hx
 ·have:=(aW.1 hx).1;rw[dM] at this;have he:i=ae.length:=by simp at this;omega
  subst he;rw[GS] at hx;rw[g.rel.1,GS] at hw;injection hx with hx;injection hw with hw;subst hx;subst hw;exact hv
def DY{H}{c}{t t2}{sz sz2}{ae rows2}(hb:H.boxes[c]?=aa (aM 3 0 [] t sz ae)):cE aq H 94 (.ptr (.box c) 3) (.list t2 sz2 rows2)=aa (H.put c (aM 3 0 [] t2 sz2 rows2)):=
 fK (off:=3) (cs:=aM 3 0 [] t sz ae) (xs:=[.list t2 sz2 rows2]) rfl aw hb rfl (aL 4)
def auN{H:ar}:cE aq (H.push (aM 0 0 [] .nil 0 [])) 3 (.ptr (.box H.boxes.length) 0) (.v (.int .i64 3))=aa (H.push (aM 3 0 [] .nil 0 [])):=by rw[fK (off:=0) (cs:=aM 0 0 [] .nil 0 []) (xs:=[.v (.int .i64 3)]) rfl fR (bg _ _) rfl aZ];congr 1;exact qs _ _ _
def ZV{H}{xs:List AV}{i s}{x}(h:xs[i]?=aa x):aI aq Gt H 20 (.elem s (xs.map λa=>[a]) i 0)=aa x:=by rw[sI aw (row:=[x]) (by rw[ey,h];rfl)];rfl
def acT:dJ aq 20=aa 1:=aw
def vZ.aht{x}{v}(h:vZ x v):(∃n,x=.iface 3 (.v (.int .i64 n))/\v=.int n/\0<=n/\n<=4611686018427387903)∨(∃k s b,x=.iface 28 (.list k s (bf b))/\v=.text b/\(b≠[]->s=1)/\b.length<=1099511620000)∨∃r,x=.iface 96 (.agg r)/\dm v r:=by
 cases h with|int n hn=>exact .inl ⟨n,rfl,rfl,hn.1,hn.2⟩|text k s b hs hb=>exact .inr (.inl ⟨k,s,b,rfl,rfl,hs,hb⟩)|val v r h=>exact .inr (.inr ⟨r,rfl,h⟩)
def RH(h:ar)(bB:cK h=ah)(k:Tok)(s:Nat)(xs:List AV)(vs:List Vl)(hr:uX xs vs)(hs:xs≠[]->s=1)(hl:xs.length<=1000)(hf:∀a∈xs,aK 0 0 0 a=ah):
 ∃r h',W4.call 112 [.list k s (xs.map λa=>[a])] h=aa (r,h')/\Ext h h'/\∃t sz ae,r=.ret (.agg (aM 3 0 [] t sz ae))/\dm (.list vs) (aM 3 0 [] t sz ae)/\ie 0 0 0 ae=ah/\(xs.length=0->t=.nil/\sz=0/\ae=[]):=by
 have kr:=ao.mk (az hr (az hs hf));clear hr hs hf;have z:=yQ;have u180:=aeS;have u94:=qD;have z20:=acT;have cY:(xs.map λa=>[a]).length=xs.length:=bF _;have G0:rk h (h.push (aM 3 0 [] .nil 0 [])) h.boxes.length (vs.take 0) .nil 0 []:=⟨bg _ _,.inl rfl,bB,.push _ _,aL _,⟨rfl,λi v r q=>by simp at q⟩,λq=>absurd rfl q,λ_=>.inr rfl,rfl⟩;refine di rfl Tryz.func112 rfl ?_;refine bK @Jl @gg @auN @lN ?_;refine bM.gen λe0 aG bE cZ cV=>?_;have f2:e0.get 2=.ptr (.box h.boxes.length) 0:=by rw[aG];exact gS
 have f9:e0.get 9=.list k s (xs.map λa=>[a]):=by rw[aG];exact gS
 have f10:e0.get 10=.v (.int .i64 (xs.length:Nat)):=by rw[aG];exact gS
 have f11:e0.get 11=.v (.int .i64 (0:Nat)):=by rw[aG];exact gR
 have fd:e0.defers=[]:=by rw[bE];exact gS
 clear aG bE cZ cV;refine cH (λm e H=>∃(i:Nat) (t:Tok) (sz:Nat) (ae:List (List AV)),i<=xs.length/\m=xs.length - i/\ao (rk h H h.boxes.length (vs.take i) t sz ae)/\ao (i=0->t=.nil/\sz=0/\ae=[])/\e.get 2=.ptr (.box h.boxes.length) 0/\e.get 9=.list k s (xs.map λa=>[a])/\e.get 10=.v (.int .i64 (xs.length:Nat))/\e.get 11=.v (.int .i64 (i:Nat))/\e.defers=[]) ?_ xs.length _ _ ?_;rotate_left 1
 ·exact⟨0,.nil,0,[],cD _,rfl,⟨G0⟩,⟨λ_=>⟨rfl,rfl,rfl⟩⟩,f2,f9,f10,f11,fd⟩
 clear f2 f9 f10 f11 fd G0;rintro m e H ⟨i,t,sz,ae,hi,rfl,kG,kN,g2,g9,g10,g11,hd⟩;by_cases aC:i<xs.length
 ·have bD:s=1:=kr.out.2.1 (by intro q;rw[q] at aC;simp at aC);subst bD;obtain⟨x,hx⟩:∃x,xs[i]?=aa x:=⟨_,aU aC⟩;obtain⟨v,hv⟩:∃v,vs[i]?=aa v:=⟨_,aU (by have:=kr.out.1.1;omega)⟩;have Bz:=kr.out.1.2 i x v hx hv;have Bl:=kr.out.2.2 x (dy hx);have ld:=ZV (H:=H) (s:=1) hx;have kst:=ao.mk (fE hv);have cU:ae.length<1000000:=by have:=kG.out.rel.1;rw[fm] at this;omega
  have fw:(i:Int)<(xs.length:Int):=by omega
  clear hx hv;rcases Bz.aht with⟨n,rfl,rfl,jF,uE⟩|⟨kb,sb,b,rfl,rfl,lY,gi⟩|⟨r,rfl,iY⟩
  ·have iY:dm (.int n) (aM 1 n [] .nil 0 []):=.int n ⟨jF,uE⟩;have kG2:=ao.mk (kG.out.put iY rfl);have l3:=oW kG.out.box;have ap:=Co (r:=aM 1 n [] .nil 0 []) cU kG.out.four kG.out.nil kG.out.can;have bl:=Cs (r:=aM 1 n [] .nil 0 []) rfl rfl;have st:=DY (H:=H.app t) (t2:=.free H.tn) (sz2:=4) (rows2:=ae++[aM 1 n [] .nil 0 []]) (by rw[eC];exact kG.out.box);rw[<-kst.out] at kG2;clear iY jF uE Bz Bl;refine bK @Jl @gg @bp (az @Vt @OK) ?_;exact⟨xs.length - (i+1),by omega,i+1,_,_,_,by omega,rfl,kG2,⟨λq=>absurd q (UI _)⟩,by simp⟩
  ·have iY:dm (.text b) (aM 2 0 b .nil 0 []):=.text b gi;have kG2:=ao.mk (kG.out.put iY rfl);have l3:=oW kG.out.box;have ap:=Co (r:=aM 2 0 b .nil 0 []) cU kG.out.four kG.out.nil kG.out.can;have bl:=Cs (r:=aM 2 0 b .nil 0 []) rfl rfl;have cv:=KG (k:=kb) lY;have st:=DY (H:=H.app t) (t2:=.free H.tn) (sz2:=4) (rows2:=ae++[aM 2 0 b .nil 0 []]) (by rw[eC];exact kG.out.box);rw[<-kst.out] at kG2;clear iY lY gi Bz Bl;refine bK @Jl @gg @bp (az @Vs (az @Vr @OL)) ?_;exact⟨xs.length - (i+1),by omega,i+1,_,_,_,by omega,rfl,kG2,⟨λq=>absurd q (UI _)⟩,by simp⟩
  ·have yk:aR 0 0 0 r=ah:=(by simpa [aK] using Bl);have kG1:=kG.out.push r;have kG2:=ao.mk (kG1.put iY yk);have l3:=oW kG1.box;have l4:=qT iY.len (bg H r);have ap:=Co (r:=r) cU kG1.four kG1.nil kG1.can;have bl:=Cs (r:=r) iY.len iY.cells;have st0:=TD (H:=H) iY;have st:=DY (H:=(H.push r).app t) (t2:=.free (H.push r).tn) (sz2:=4) (rows2:=ae++[r]) (by rw[eC];exact kG1.box);rw[<-kst.out] at kG2;clear iY Bz kG1 Bl yk;refine bK @Jl @gg @bp (az @afL (az @afK @afM)) ?_;exact⟨xs.length - (i+1),by omega,i+1,_,_,_,by omega,rfl,kG2,⟨λq=>absurd q (UI _)⟩,by simp⟩
 ·have gx:i=xs.length:=by omega
  subst gx;have hG:=kG.out;rw[gK (by rw[kr.out.1.1];exact aL _)] at hG;have hv:dm (.list vs) (aM 3 0 [] t sz ae):=.list vs t sz ae hG.rel.1 hG.four (by have:=hG.rel.1;have:=kr.out.1.1;omega) hG.rel.2;have ld:=qT hv.len hG.box;have st:cE aq H 96 (.ptr (.box h.boxes.length) 0) (.agg (aM 3 0 [] t sz ae))=aa H:=by rw[fK lN qW hG.box rfl (aL 4),xo rfl];rw[oB hG.box]
  have kv:=ao.mk (az hv (az hG.ext hG.fit));clear hv hG;refine bC @Jl ?_;exact⟨_,_,rfl,kv.out.2.1,_,_,_,rfl,kv.out.1,kv.out.2.2,kN.out⟩
def bd3:nH aq 96 [(0,.v (.int .i64 3))]=aa (.agg (aM 3 0 [] .nil 0 [])):=aw
inductive ze:AV->Vl->Prop
 |int (n:Int) (hn:0<=n/\n<=4611686018427387903):ze (.iface 3 (.v (.int .i64 n))) (.int n)
 |text (k:Tok) (s:Nat) (b:List UInt8) (hs:b≠[]->s=1) (hb:b.length<=1099511620000):ze (.iface 28 (.list k s (bf b))) (.text b)
def xE(xs:List AV)(vs:List Vl):Prop:=xs.length=vs.length/\∀(i:Nat) x v,xs[i]?=aa x->vs[i]?=aa v->ze x v
def xE.nil:xE [] []:=⟨rfl,λi x v h=>by simp at h⟩
def xE.cons{x}{v}{xs}{vs}(h:ze x v)(hs:xE xs vs):xE (x::xs) (v::vs):=by
 refine⟨by simp[hs.1],λi y w hy hw=>?_⟩;cases i with|zero=>simp at hy hw;subst hy;subst hw;exact h|succ i=>simp at hy hw;exact hs.2 i y w hy hw
def ze.ahs{x}{v}(h:ze x v):(∃n,x=.iface 3 (.v (.int .i64 n))/\v=.int n/\0<=n/\n<=4611686018427387903)∨(∃k s b,x=.iface 28 (.list k s (bf b))/\v=.text b/\(b≠[]->s=1)/\b.length<=1099511620000):=by
 cases h with|int n hn=>exact .inl ⟨n,rfl,rfl,hn.1,hn.2⟩|text k s b hs hb=>exact .inr ⟨k,s,b,rfl,rfl,hs,hb⟩
def ank(h:ar)(bB:cK h=ah)(k:Tok)(s:Nat)(xs:List AV)(vs:List Vl)(hr:xE xs vs)(hs:xs≠[]->s=1)(hl:xs.length<=1000)(Bh:gQ (.list vs)<=16)(Bj:(dU (.list vs)).length<=1099511600000):
 ∃r h',W4.call 79 [.list k s (xs.map λa=>[a])] h=aa (r,h')/\∃t,r=.ret (.list t 1 (bf (dU (.list vs)))):=by
 have kr:=ao.mk (az hr (az hs (az Bh Bj)));clear hr hs Bh Bj;have z:=yQ;have u180:=aeS;have u94:=qD;have z20:=acT;have cY:(xs.map λa=>[a]).length=xs.length:=bF _;have G0:rk h (h.push (aM 3 0 [] .nil 0 [])) h.boxes.length (vs.take 0) .nil 0 []:=⟨bg _ _,.inl rfl,bB,.push _ _,aL _,⟨rfl,λi v r q=>by simp at q⟩,λq=>absurd rfl q,λ_=>.inr rfl,rfl⟩;refine di rfl Tryz.func79 rfl ?_;refine bK @MQ @gg @bd3 (az @Nd @lN) ?_;refine bM.gen λe0 aG bE cZ cV=>?_;have f2:e0.get 3=.ptr (.box h.boxes.length) 0:=by rw[aG];exact gS
 have f9:e0.get 11=.list k s (xs.map λa=>[a]):=by rw[aG];exact gS
 have f10:e0.get 12=.v (.int .i64 (xs.length:Nat)):=by rw[aG];exact gS
 have f11:e0.get 13=.v (.int .i64 (0:Nat)):=by rw[aG];exact gR
 have fd:e0.defers=[]:=by rw[bE];exact gS
 clear aG bE cZ cV;refine cH (λm e H=>∃(i:Nat) (t:Tok) (sz:Nat) (ae:List (List AV)),i<=xs.length/\m=xs.length - i/\ao (rk h H h.boxes.length (vs.take i) t sz ae)/\e.get 3=.ptr (.box h.boxes.length) 0/\e.get 11=.list k s (xs.map λa=>[a])/\e.get 12=.v (.int .i64 (xs.length:Nat))/\e.get 13=.v (.int .i64 (i:Nat))/\e.defers=[]) ?_ xs.length _ _ ?_;rotate_left 1
 ·exact⟨0,.nil,0,[],cD _,rfl,⟨G0⟩,f2,f9,f10,f11,fd⟩
 clear f2 f9 f10 f11 fd G0;rintro m e H ⟨i,t,sz,ae,hi,rfl,kG,g3,g11,g12,g13,hd⟩;by_cases aC:i<xs.length
 ·have bD:s=1:=kr.out.2.1 (by intro q;rw[q] at aC;simp at aC);subst bD;obtain⟨x,hx⟩:∃x,xs[i]?=aa x:=⟨_,aU aC⟩;obtain⟨v,hv⟩:∃v,vs[i]?=aa v:=⟨_,aU (by have:=kr.out.1.1;omega)⟩;have Bz:=kr.out.1.2 i x v hx hv;have ld:=ZV (H:=H) (s:=1) hx;have kst:=ao.mk (fE hv);have cU:ae.length<1000000:=by have:=kG.out.rel.1;rw[fm] at this;omega
  have fw:(i:Int)<(xs.length:Int):=by omega
  clear hx hv;rcases Bz.ahs with⟨n,rfl,rfl,jF,uE⟩|⟨kb,sb,b,rfl,rfl,lY,gi⟩
  ·have iY:dm (.int n) (aM 1 n [] .nil 0 []):=.int n ⟨jF,uE⟩;have kG2:=ao.mk (kG.out.put iY rfl);have l3:=oW kG.out.box;have ap:=Co (r:=aM 1 n [] .nil 0 []) cU kG.out.four kG.out.nil kG.out.can;have bl:=Cs (r:=aM 1 n [] .nil 0 []) rfl rfl;have st:=DY (H:=H.app t) (t2:=.free H.tn) (sz2:=4) (rows2:=ae++[aM 1 n [] .nil 0 []]) (by rw[eC];exact kG.out.box);rw[<-kst.out] at kG2;clear iY jF uE Bz;refine bK @MQ @gg @bp (az @Vt @OK) ?_;exact⟨xs.length - (i+1),by omega,i+1,_,_,_,by omega,rfl,kG2,by simp⟩
  ·have iY:dm (.text b) (aM 2 0 b .nil 0 []):=.text b gi;have kG2:=ao.mk (kG.out.put iY rfl);have l3:=oW kG.out.box;have ap:=Co (r:=aM 2 0 b .nil 0 []) cU kG.out.four kG.out.nil kG.out.can;have bl:=Cs (r:=aM 2 0 b .nil 0 []) rfl rfl;have cv:=KG (k:=kb) lY;have st:=DY (H:=H.app t) (t2:=.free H.tn) (sz2:=4) (rows2:=ae++[aM 2 0 b .nil 0 []]) (by rw[eC];exact kG.out.box);rw[<-kst.out] at kG2;clear iY lY gi Bz;refine bK @MQ @gg @bp (az @Vs (az @Vr @OL)) ?_;exact⟨xs.length - (i+1),by omega,i+1,_,_,_,by omega,rfl,kG2,by simp⟩
 ·have gx:i=xs.length:=by omega
  subst gx;have hG:=kG.out;rw[gK (by rw[kr.out.1.1];exact aL _)] at hG;have hv:dm (.list vs) (aM 3 0 [] t sz ae):=.list vs t sz ae hG.rel.1 hG.four (by have:=hG.rel.1;have:=kr.out.1.1;omega) hG.rel.2;have ld:=qT hv.len hG.box;obtain⟨te,ce⟩:=WJ hv kr.out.2.2.1 kr.out.2.2.2;clear hv hG;refine bC @MQ ?_;exact⟨_,_,rfl,_,rfl⟩
def akZ(h:ar)(bB:cK h=ah)(bA:List UInt8)(k:Tok)(s:Nat)(xs:List AV)(vs:List Vl)(hr:uX xs vs)(hs:xs≠[]->s=1)(hl:xs.length<=1000)(hf:∀a∈xs,aK 0 0 0 a=ah)(ht:bA.length<=1099511620000)(Bh:gQ (.list vs)<=16)(Bj:(dU (.list vs)).length<=1099511600000):
 ∃r h',W4.call 114 [.v (.string (bs bA)),.list k s (xs.map λa=>[a])] h=aa (r,h')/\r=.ret (im ((uw bA (.list vs):Nat):Int)):=by
 obtain⟨_,h1,c1,-,t,sz,ae,rfl,hv,-,-⟩:=RH h bB k s xs vs hr hs hl hf;obtain⟨te,ce⟩:=WJ hv Bh Bj;have cg:=Xu bA (dU (.list vs)) te ai ht;have e:nj (gO bA (dU (.list vs)))=uw bA (.list vs):=rfl;rw[e] at cg;generalize uw bA (.list vs)=n at *
 unfold im at *
 clear hr hs hl hv hf e;refine di rfl Tryz.func114 rfl ?_;refine bC @asu ?_;exact⟨_,_,rfl,rfl⟩
def akz(n:Nat)(h0:0<n)(hn:n<=1099511627776)(H:ar):W4.call 158 [.list .nil 0 [],.v (.int .i64 (n:Nat))] H=aa (.ret (.arr H.boxes.length 0 0 n),H.push (br n [im 0]).flatten):=by
 have u23:=dY;have a:=afS (H:=H) h0 hn;have e1:IntKind.i64.wrap ((0:Int) - 0)=0:=by rfl
 have e2:IntKind.i64.wrap (((n:Nat):Int) - 0)=((n:Nat):Int):=by rw[Er,gh ai ai]
 have s2:jc aq 23 (.arr H.boxes.length 0 n n) av (aa (.v (.int .i64 (0:Nat)))) av=aa (.arr H.boxes.length 0 0 n):=aci u23 fR aZ aZ ai h0;have s2:jc aq 23 (.arr H.boxes.length 0 n n) av (aa (.v (.int .i64 0))) av=aa (.arr H.boxes.length 0 0 n):=s2;have aC:(0:Int)<(n:Nat):=by omega
 refine cN rfl aeJ rfl ?_;exact K6 @abJ @HB @V0 (az @acj (az @lP.{0} (az @tY @Er)))
def aky(H:ar):W4.call 158 [.list .nil 0 [],.v (.int .i64 (0:Nat))] H=aa (.ret (.list .nil 0 []),H):=by
 have u23:=dY;refine cN rfl aeJ rfl ?_;have e1:IntKind.i64.wrap ((0:Int) - 0)=0:=by rfl
 have e2:IntKind.i64.wrap (((0:Nat):Int) - 0)=0:=by rfl
 exact K6 @abJ @HB @V0 (az @acj (az @lP.{0} (az @tY @Er)))
def aiq(k:Tok)(xs:List AV)(dD:List (List (List AV)))(hl:xs.length=dD.length)(H:ar)(hs:∀(i:Nat) x rs,xs[i]?=aa x->dD[i]?=aa rs->eu 1 H x rs)(hb:dD.flatten.length<=1099511627776)(dR:xs.length<=1000):
 ∃r H',W4.call 109 [.list k 1 (xs.map λx=>[x])] H=aa (r,H')/\∃y,r=.ret y/\Ext H H'/\eu 1 H' y dD.flatten:=by
 have u23:=dY;have u22:=jf;have aE:=afo;have sE:=iA;have hr:∀(i:Nat) x,xs[i]?=aa x->(xs.map λx=>[x])[i]?=aa [x]:=λi x hx=>by rw[ey,hx];rfl
 have eX:∀i,(dD.take i).flatten.length<=1099511627776:=λi=>by
  refine Nat.le_trans ?_ hb
  conv=>rhs;rw[<-zd i dD,rX,dM]
  omega
 have jQ:∀(i:Nat) rs,dD[i]?=aa rs->(dD.take (i+1)).flatten=(dD.take i).flatten++rs:=λi rs hi=>by rw[fE hi,rX];simp
 have kS:=ao.mk hs;have kl:=ao.mk hl;have kr:=ao.mk hr;have kst:=ao.mk jQ;have kle:=ao.mk eX;have nP:(xs.map λx=>[x]).length=xs.length:=by simp
 clear hs hr jQ eX hl;generalize hM:(xs.map λx=>[x])=M at *
 refine di rfl Tryz.func109 rfl ?_;refine bC @BO ?_;refine cH (λm e h'=>∃i:Nat,i<=xs.length/\m=xs.length - i/\e.get 0=.list k 1 M/\e.get 9=.list k 1 M/\e.get 10=.v (.int .i64 (xs.length:Nat))/\e.get 11=.v (.int .i64 i)/\e.get 3=.v (.int .i64 ((dD.take i).flatten.length:Nat))/\e.get 2=.list .nil 0 []/\e.defers=[]/\h'=H) ?_ xs.length _ _ ?_;rotate_left 1
 ·refine⟨0,cD _,rfl,?_,?_,?_,?_,?_,?_,?_,rfl⟩<;>(first|assumption|(simp only[gW,reduceIte,aS,aO,nP]<;>rfl))
 rintro m e h' ⟨i,hi,rfl,g0,g9,g10,g11,g3,g2,hd,rfl⟩;by_cases aC:i<xs.length
 ·obtain⟨x,hx⟩:∃x,xs[i]?=aa x:=⟨_,aU aC⟩;obtain⟨rs,jP⟩:∃rs,dD[i]?=aa rs:=⟨_,aU (by have:=kl.out;omega)⟩;have s1:=kS.out i x rs hx jP;have ls:=s1.len u23;have wN:=kr.out i x hx;have Db:(i:Int)<(M.length:Int):=by omega
  have q:=kst.out i rs jP;have q1:=kle.out (i+1);rw[q,dM] at q1;have ksum:=ao.mk (show(dD.take (i+1)).flatten.length=(dD.take i).flatten.length+rs.length by rw[q,dM]);generalize (dD.take i).flatten.length=n1 at *
  have e1:IntKind.i64.wrap (((n1:Nat):Int)+((rs.length:Nat):Int))=((n1+rs.length:Nat):Int):=by rw[gh ai ai];omega
  have nn:¬(((n1+rs.length:Nat):Int)<0):=by omega
  have ld:aI aq Gt h' 23 (.elem 1 M i 0)=aa x:=by rw[sI aE wN];rfl
  clear q q1 s1;refine bQ @BO @bp ?_;exact⟨xs.length - (i+1),by omega,i+1,by omega,rfl,by trivial,by trivial,by trivial,by simp,by rw[ksum.out],by trivial,by trivial,by trivial⟩
 have:i=xs.length:=by omega
 subst this;rw[show dD.take xs.length=dD by rw[kl.out];exact fN] at g3;have hn:=kle.out xs.length;rw[show dD.take xs.length=dD by rw[kl.out];exact fN] at hn;generalize hN:dD.flatten.length=n at *
 rcases Hc n with h0|h0
 ·subst h0;have gn:=aky h';have qi:dD.flatten=[]:=List.eq_nil_of_length_eq_zero hN;refine bC @BO ?_;refine cH (λm e H1=>∃i:Nat,i<=xs.length/\m=xs.length - i/\e.get 25=.list k 1 M/\e.get 26=.v (.int .i64 (xs.length:Nat))/\e.get 27=.v (.int .i64 i)/\e.get 6=.list .nil 0 []/\e.defers=[]/\H1=h') ?_ xs.length _ _ ?_;rotate_left 1
  ·refine⟨0,cD _,rfl,?_,?_,?_,?_,?_,rfl⟩<;>(first|assumption|(simp only[gW,reduceIte,aS,aO,nP]<;>rfl))
  clear g0 g9 g10 g11 g3 g2 hd gn;rintro m e H1 ⟨i,hi,rfl,g25,g26,g27,g6,hd,rfl⟩;by_cases aC:i<xs.length
  ·obtain⟨x,hx⟩:∃x,xs[i]?=aa x:=⟨_,aU aC⟩;obtain⟨rs,jP⟩:∃rs,dD[i]?=aa rs:=⟨_,aU (by have:=kl.out;omega)⟩;have s1:=kS.out i x rs hx jP;have Q4:rs=[]:=by
    have:=dy jP;cases rs with|nil=>rfl|cons a l=>exact absurd (N5.2 ⟨_,this,gq⟩) (by rw[qi];exact xC)
   subst Q4;have an:=afv s1;have wN:=kr.out i x hx;have Db:(i:Int)<(M.length:Int):=(by omega);have ld:aI aq Gt H1 23 (.elem 1 M i 0)=aa x:=(by rw[sI aE wN];rfl);clear s1;refine bQ @BO @bp ?_;exact⟨xs.length - (i+1),by omega,i+1,by omega,rfl,by trivial,by trivial,by simp,by trivial,by trivial,by trivial⟩
  ·have:i=xs.length:=(by omega);subst this;refine bC @BO ?_;exact⟨_,_,rfl,_,rfl,Ext.refl _,by(try rw[qi]);exact eu.list (λr hr=>by cases hr) (λq=>absurd rfl q)⟩
 ·have gn:=akz n h0 hn h';refine bC @BO ?_;rw[SE];have Dn:∀(i:Nat) rs,dD[i]?=aa rs->∀r∈rs,r.length=1:=λi rs hi=>by obtain⟨x,hx⟩:∃x,xs[i]?=aa x:=⟨_,aU (by rw[kl.out];exact(aW.1 hi).1)⟩;exact(kS.out i x rs hx hi).1
  have jO:∀i,∀r∈(dD.take i).flatten,r.length=1:=λi r hr=>by obtain⟨rs,h1,h2⟩:=N5.1 hr;obtain⟨j,hj⟩:=List.mem_iff_getElem?.1 (pY h1);exact Dn j rs hj r h2
  have ot:∀i,(dD.take i).flatten.flatten.length=(dD.take i).flatten.length:=λi=>by rw[oh (jO i),ph]
  have Ir:∀i,(dD.take i).flatten.length<=n:=λi=>by
   rw[<-hN]
   conv=>rhs;rw[<-zd i dD,rX,dM]
   omega
  have kfl:=ao.mk ot;have kmo:=ao.mk Ir;have kr2:=ao.mk jO;clear Dn ot Ir jO gn;refine cH (λm e H1=>∃i:Nat,i<=xs.length/\m=xs.length - i/\e.get 25=.list k 1 M/\e.get 26=.v (.int .i64 (xs.length:Nat))/\e.get 27=.v (.int .i64 i)/\e.get 6=.arr h'.boxes.length 0 (dD.take i).flatten.length n/\e.defers=[]/\H1.boxes[h'.boxes.length]?=aa ((dD.take i).flatten.flatten++br (n - (dD.take i).flatten.length) (im 0))/\Ext h' H1) ?_ xs.length _ _ ?_;rotate_left 1
  ·refine⟨0,cD _,rfl,?_,?_,?_,?_,?_,?_,Ext.push _ _⟩<;>(first|assumption|exact bg _ _|(simp only[gW,reduceIte,aS,aO,nP]<;>rfl))
  clear g0 g9 g10 g11 g3 g2 hd;rintro m e H1 ⟨i,hi,rfl,g25,g26,g27,g6,hd,hB,hX⟩;by_cases aC:i<xs.length
  ·obtain⟨x,hx⟩:∃x,xs[i]?=aa x:=⟨_,aU aC⟩;obtain⟨rs,jP⟩:∃rs,dD[i]?=aa rs:=⟨_,aU (by have:=kl.out;omega)⟩;have s1:=(kS.out i x rs hx jP).ext hX;have q:=kst.out i rs jP;have m1:=kmo.out (i+1);have f0:=kfl.out i;have Bx:(dD.take (i+1)).flatten.length=(dD.take i).flatten.length+rs.length:=(by rw[q,dM]);rw[Bx] at m1;have Q5:rs.flatten.length=rs.length:=(by rw[oh s1.1,ph]);have ap:=aeW s1 hB m1 (by rw[dM,List.length_replicate,f0];omega);have mb:fe ((dD.take i).flatten.flatten++br (n - (dD.take i).flatten.length) (im 0)) (dD.take i).flatten.length rs.flatten=(dD.take (i+1)).flatten.flatten++br (n - (dD.take (i+1)).flatten.length) (im 0):=(by unfold fe;rw[Ki f0,List.drop_append,rh (by rw[f0];omega),mh,f0,List.drop_replicate,q,rX,dM,Q5];congr 2;omega);rw[mb] at ap;have wN:=kr.out i x hx;have Db:(i:Int)<(M.length:Int):=(by omega);have ld:aI aq Gt H1 23 (.elem 1 M i 0)=aa x:=(by rw[sI aE wN];rfl);have kX:=ao.mk hX;have ox:=(aW.1 hB).1;have ks:=ao.mk Bx;clear s1 hX hB mb q f0 Bx;refine bQ @BO @bp ?_;refine⟨xs.length - (i+1),by omega,i+1,by omega,rfl,by trivial,by trivial,by simp,by rw[ks.out],by trivial,?_,kX.out.fZ (aL _) _⟩;exact eO ox
  ·have:i=xs.length:=(by omega);subst this;have ht:dD.take xs.length=dD:=(by rw[kl.out];exact fN);have f0:=kfl.out xs.length;have jO:=kr2.out xs.length;rw[ht] at hB g6 f0 jO;rw[hN] at hB g6;rw[Nat.sub_self,List.replicate_zero,jC] at hB;have kB:=ao.mk hB;have kX:=ao.mk hX;clear hB hX;refine bC @BO ?_;exact⟨_,_,rfl,_,rfl,kX.out,eu.box jO hN.symm kB.out⟩
def L5:List bq:=[28,29,30,42,46,57,59,65,66,69,76,77,78,79,82,92,93,94,97,107,108,109,110,112,115,118,119,120,121,123,129,130,132,135,136,137,138,140,146,172,194,195,196,201]
noncomputable def F8:bq->Option (List AV->ar->Option (AV × ar)):=BG 4 W4 L5 [114]
noncomputable abbrev W5:=whole aq Gt F8
def mA:qu F8 L5:=λg hg=>⟨FU W4 g,by unfold F8 BG;rw[aH (by simpa using hg)];rfl⟩
section
variable (a b n x:Int)
def Kn:∀h,W5.call 28 [im a,im b] h=aa (.ret (im (dj a b)),h):=ig (L:=L5) rfl rfl rfl (Vc a b _) rfl rfl
def LW:∀h,W5.call 29 [im a,im b] h=aa (.ret (im (df a b)),h):=ig (L:=L5) rfl rfl rfl (aar a b _) rfl rfl
def Np:∀h,W5.call 46 [im x] h=aa (.ret (.v (.bool (bN x))),h):=ig (L:=L5) rfl rfl rfl (ac1 x _) rfl rfl
def E7:∀h,W5.call 69 [im a,im b] h=aa (.ret (.tuple [im (jL a b),im (mM a b)]),h):=ig (L:=L5) rfl rfl rfl (aks a b _) rfl rfl
def K5:∀h,W5.call 30 [im a,im n] h=aa (.ret (.tuple [im (fH a n),im (ni a)]),h):=ig (L:=L5) rfl rfl rfl (Py a n _) rfl rfl
def ara:∀h,W5.call 194 [im n] h=aa (.ret (.tuple [im (if fmod n=0 then 0 else eU n),im (if fmod n=0 then 90 else 0)]),h):=ig (L:=L5) rfl rfl rfl (aq9 n _) rfl rfl
def atK:∀h,W5.call 94 [im x] h=aa (.ret (.v (.bool (bN x))),h):=ig (L:=L5) rfl rfl rfl (atJ x _) rfl rfl
def aqK:∀h,W5.call 140 [im a,im b] h=aa (.ret (.tuple [im (jL a b),im (mM a b)]),h):=ig (L:=L5) rfl rfl rfl (aqJ a b _) rfl rfl
def aqR:∀h,W5.call 132 [im a,im n] h=aa (.ret (.tuple [im (fH a n),im (ni a)]),h):=ig (L:=L5) rfl rfl rfl (aqQ a n _) rfl rfl
def aq4:∀h,W5.call 120 [im n] h=aa (.ret (.agg (aM 1 n [] .nil 0 [])),h):=ig (L:=L5) rfl rfl rfl (aq3 n _) rfl rfl
end
def I8(x n):∀h,W5.call 57 [im x,im n] h=aa (.ret (im (fH x n)),h):=ig (L:=L5) rfl rfl rfl (apE x n _) rfl rfl
def aa6(x n):∀h,W5.call 77 [im x,im n] h=aa (.ret (im (fH x n)),h):=ig (L:=L5) rfl rfl rfl (apG x n _) rfl rfl
def an7(n):∀h,W5.call 59 [im n] h=aa (.ret (.v (.bool (cA n))),h):=ig (L:=L5) rfl rfl rfl (aaB n _) rfl rfl
def vM{x y}{ae}{ag}(hx:RL x ae)(hy:IL y ag):RL (aD x) ae/\IL (aD y) ag/\aK 0 0 0 (aD x)=ah/\aK 0 0 0 (aD y)=ah:=
 ⟨hx.fD.1,hy.hold.1,hx.fD.2,hy.hold.2⟩
def Wc(x y)(ae)(ag)(hx:RL x ae)(hy:IL y ag):∀h,W5.call 97 [.agg [x,y]] h=aa (.ret (im (de ae ag)),h):=by obtain⟨h1,h2,h3,h4⟩:=vM hx hy;exact ig (L:=L5) (b7:=[.agg [aD x,aD y]]) rfl rfl (by simp[aR,aK,h3,h4]) (Wb (aD x) (aD y) ae ag h1 h2 _) rfl rfl
def aid(x y)(ae)(ag)(hx:RL x ae)(hy:IL y ag):∀h,W5.call 108 [.agg [x,y]] h=aa (.ret (im (bP ae:Nat)),h):=by obtain⟨h1,h2,h3,h4⟩:=vM hx hy;obtain⟨h',c,-⟩:=Wl ⟨[],[],0,[]⟩ (aD x) (aD y) ae ag h1 h2;exact ig (L:=L5) (b7:=[.agg [aD x,aD y]]) rfl rfl (by simp[aR,aK,h3,h4]) c rfl rfl
def Wm(x y)(ae)(ag)(hx:RL x ae)(hy:IL y ag):∀h,W5.call 42 [.agg [x,y]] h=aa (.ret (im (bP ae:Nat)),h):=by obtain⟨h1,h2,h3,h4⟩:=vM hx hy;obtain⟨h',c,-⟩:=aih ⟨[],[],0,[]⟩ (aD x) (aD y) ae ag h1 h2;exact ig (L:=L5) (b7:=[.agg [aD x,aD y]]) rfl rfl (by simp[aR,aK,h3,h4]) c rfl rfl
def aif(x y)(ae)(ag)(hx:RL x ae)(hy:IL y ag):∀h,W5.call 136 [.agg [x,y]] h=aa (.ret (im (bP ae:Nat)),h):=by obtain⟨h1,h2,h3,h4⟩:=vM hx hy;obtain⟨h',c,-⟩:=aie ⟨[],[],0,[]⟩ (aD x) (aD y) ae ag h1 h2;exact ig (L:=L5) (b7:=[.agg [aD x,aD y]]) rfl rfl (by simp[aR,aK,h3,h4]) c rfl rfl
def SB(x y)(ae)(ag)(hx:RL x ae)(hy:IL y ag)(hl:ae.length<=1000000):∀h,W5.call 115 [.agg [x,y]] h=aa (.ret (im (de ae ag)),h):=by obtain⟨h1,h2,h3,h4⟩:=vM hx hy;obtain⟨r,h',c,-,rfl⟩:=aqf ⟨[],[],0,[]⟩ (aD x) (aD y) ae ag h1 h2 hl;exact ig (L:=L5) (b7:=[.agg [aD x,aD y]]) rfl rfl (by simp[aR,aK,h3,h4]) c rfl rfl
def aaD(x)(l)(hx:IL x l)(hl:l.length<=1000000):∀h,W5.call 107 [x] h=aa (.ret (.v (.bool (l.all cA))),h):=by obtain⟨h1,h2⟩:=hx.hold;exact ig (L:=L5) (b7:=[aD x]) rfl rfl (by simp[aR,h2]) (aaC (aD x) l h1 hl _) rfl rfl
def aoa(x)(l)(hx:IL x l)(hl:l.length<=9223372036854775807):∀h,W5.call 92 [x] h=aa (.ret (.v (.bool (l.all cA))),h):=by obtain⟨h1,h2⟩:=hx.hold;obtain⟨r,h',c,-,rfl⟩:=an9 ⟨[],[],0,[]⟩ (aD x) l h1 hl;exact ig (L:=L5) (b7:=[aD x]) rfl rfl (by simp[aR,h2]) c rfl rfl
def aaS(x)(l)(hx:IL x l)(hl:l.length<=9223372036854775807):∀h,W5.call 93 [x] h=aa (.ret (.v (.bool (fU (-1) l))),h):=by obtain⟨h1,h2⟩:=hx.hold;obtain⟨r,h',c,-,rfl⟩:=aoZ ⟨[],[],0,[]⟩ (aD x) l h1 hl;exact ig (L:=L5) (b7:=[aD x]) rfl rfl (by simp[aR,h2]) c rfl rfl
def Yd(x)(l)(n)(hx:IL x l)(hl:l.length<=1099511627776):∀h,W5.call 137 [x,im n] h=aa (.ret (.v (.bool (l.contains n))),h):=by obtain⟨h1,h2⟩:=hx.hold;obtain⟨r,h',c,-,rfl⟩:=akT ⟨[],[],0,[]⟩ (aD x) l n h1 hl;exact ig (L:=L5) (b7:=[aD x,im n]) rfl rfl (by simp[aR,h2,aK,im]) c rfl rfl
def avP(n)(h1:0<n)(h2:n<=1000000):∀h,W5.call 135 [im (n:Nat)] h=aa (.ret (.list .held 1 (ints (gj n))),h):=
 ig (L:=L5) rfl rfl rfl (avO ⟨[],[],0,[]⟩ n h1 h2) (Dw (bg _ _) (TJ h1)) (by simp[aK,nL,sV])
def avX(x y)(a b)(hx:IL x a)(hy:IL y b)(hl:a.length<=1000000)(Fc:a.length<=b.length):∀h,W5.call 110 [x,y] h=aa (.ret (im (px a b)),h):=by obtain⟨h1,h2⟩:=hx.hold;obtain⟨h3,h4⟩:=hy.hold;obtain⟨h',c,-⟩:=avW ⟨[],[],0,[]⟩ (aD x) (aD y) a b h1 h3 hl Fc;exact ig (L:=L5) (b7:=[aD x,aD y]) rfl rfl (by simp[aR,h2,h4]) c rfl rfl
def Wz(x y z)(ae)(ag aj)(hx:RL x ae)(hy:IL y ag)(hz:IL z aj)(hl:aj.length<=1000000):∀h,W5.call 129 [.agg [x,y],z] h=aa (.ret (im (jD ae ag aj)),h):=by obtain⟨h1,h2,h3,h4⟩:=vM hx hy;obtain⟨h5,h6⟩:=hz.hold;obtain⟨r,h',c,-,rfl⟩:=aiY ⟨[],[],0,[]⟩ (aD x) (aD y) (aD z) ae ag aj h1 h2 h5 hl;exact ig (L:=L5) (b7:=[.agg [aD x,aD y],aD z]) rfl rfl (by simp[aR,aK,h3,h4,h6]) c rfl rfl
def aq0(x y)(ae)(ag)(hx:RL x ae)(hy:IL y ag)(a v):∀h,W5.call 130 [.agg [x,y],.agg [im a,im v]] h=aa (.ret (.v (.bool (uR ae (a,v)))),h):=by obtain⟨h1,h2,h3,h4⟩:=vM hx hy;obtain⟨r,h',c,-,rfl⟩:=aqZ ⟨[],[],0,[]⟩ (aD x) (aD y) ae ag h1 h2 a v;exact ig (L:=L5) (b7:=[.agg [aD x,aD y],.agg [im a,im v]]) rfl rfl (by simp[aR,aK,h3,h4,im]) c rfl rfl
def Xd:∀l:List Int,(ints l).flatten=l.map im
 | []=>rfl
 |a::l=>by show(yq a::ints l).flatten=im a::l.map im;rw[pW,Xd l];rfl
def amg{h}{y}{l}(s:eu 1 h y (ints l)):IL (gX h y) l/\aK 0 0 0 (gX h y)=ah:=by
 rcases s.2 with⟨k,s',rfl,hs⟩|⟨b,off,aF,cs,rfl,-,hb,h1,h2⟩
 ·rw[gX];exact⟨⟨_,_,rfl,λq=>hs (by unfold ints;simpa using q)⟩,by rw[aK,fx,nL];rfl⟩
 ·rw[gX,hb];simp only;rw[ph] at h1 h2;have e:(ints l).flatten.map (λc=>[c])=ints l:=by have this:(ints l).flatten=l.map im:=Xd l;rw[this,Xc]
  rw[aH h2,h1,e];exact⟨⟨_,_,rfl,λ_=>rfl⟩,by rw[aK,nL];rfl⟩
def ais(x y)(a b)(hx:IL x a)(hy:IL y b)(hl:a.length+b.length<=1000000):∃z,IL z (a++b)/\∀h,W5.call 109 [.list .tight 1 [[x],[y]]] h=aa (.ret z,h):=by
 obtain⟨h1,h2⟩:=hx.hold;obtain⟨h3,h4⟩:=hy.hold;obtain⟨r,h',c,z,rfl,-,sz⟩:=aiq .tight [aD x,aD y] [ints a,ints b] rfl ⟨[],[],0,[]⟩ (λi w rs hw jP=>by
  have sa:∀{w:AV} {l:List Int},IL w l->eu 1 ⟨[],[],0,[]⟩ w (ints l):=λ{w l} hw=>by obtain⟨k,s,rfl,hs⟩:=hw;exact eu.list (λr hr=>by obtain⟨n,-,rfl⟩:=kC.1 hr;rfl) λq=>hs λe=>q (by rw[e];rfl)
  rcases i with _|_|i
  ·injection hw with hw;injection jP with jP;subst hw;subst jP;exact sa h1
  ·injection hw with hw;injection jP with jP;subst hw;subst jP;exact sa h3
  ·cases hw) (by simp[dE];omega) bJ
 have e:[ints a,ints b].flatten=ints (a++b):=by simp[ints]
 rw[e] at sz;obtain⟨i1,i2⟩:=amg sz;exact⟨_,i1,ig (L:=L5) (b7:=[.list .tight 1 [[aD x],[aD y]]]) rfl rfl (by simp[aR,aK,ie,h2,h4,sV]) c rfl i2⟩
def akn(bA b)(k)(hb:b.length<=1099511620000)(ht:bA.length<=1099511620000):∀h,W5.call 78 [.v (.string (bs bA)),.list k 1 (bf b)] h=aa (.ret (im (nj (gO bA b):Nat)),h):=
 ig (L:=L5) (b7:=[.v (.string (bs bA)),.list (bX k) 1 (bf b)]) rfl (by rw[bZ,bZ,aD.eq_1,qO];rfl) (by simp[aR,aK,fx,kL]) (Xu bA b _ hb ht _) rfl rfl
def vZ.hold{x}{v}(h:vZ x v):vZ (aD x) v/\aK 0 0 0 (aD x)=ah:=by
 cases h with|int n hn=>exact⟨.int n hn,rfl⟩|text k s b hs hb=>rw[aD,aD,qO];exact⟨.text _ s b hs hb,by simp[aK,fx,kL]⟩|val v r h=>obtain⟨h1,h2⟩:=dm.hold v r h;rw[aD,aD];exact⟨.val v _ h1,by simpa [aK] using h2⟩
def uX.hold{xs}{vs}(h:uX xs vs):uX (xs.map aD) vs/\∀a∈xs.map aD,aK 0 0 0 a=ah:=by
 refine⟨⟨by simp[h.1],λi x v hx hv=>?_⟩,λa ha=>?_⟩
 ·rw[ey] at hx;cases hy:xs[i]? with
  |none=>rw[hy] at hx;cases hx
  |some y=>rw[hy] at hx;injection hx with hx;subst hx;exact(h.2 i y v hy hv).hold.1
 ·obtain⟨y,hy,rfl⟩:=kC.1 ha;obtain⟨i,hi⟩:=vd hy;have cY:=(aW.1 hi).1;exact(h.2 i y _ hi (aU (by rw[<-h.1];exact cY))).hold.2
def dm.tok{vs}{t}{sz}{ae}(h:dm (.list vs) (aM 3 0 [] t sz ae))(t2):dm (.list vs) (aM 3 0 [] t2 sz ae):=by
 generalize hr:aM 3 0 [] t sz ae=r at h;cases h with|list l k z rs a b c d=>unfold aM at hr;injection hr with _ hr;injection hr with _ hr;injection hr with _ hr;injection hr with hr;injection hr with q1 q2 q3;subst q2;subst q3;exact .list vs t2 sz ae a b c d
def anh(k)(s)(xs)(vs)(hr:uX xs vs)(hs:xs≠[]->s=1)(hl:xs.length<=1000):
 ∃row,dm (.list vs) row/\∀h,W5.call 112 [.list k s (xs.map λa=>[a])] h=aa (.ret (.agg row),h):=by
 obtain⟨h1,h2⟩:=hr.hold;obtain⟨r,h',c,-,t,sz,ae,rfl,hv,hf,-⟩:=RH ⟨[],[],0,[]⟩ vJ (bX k) s (xs.map aD) vs h1 (λq=>hs (by simpa using q)) (by simpa using hl) h2;refine⟨aM 3 0 [] (bX t) sz ae,hv.tok _,ig (L:=L5) (b7:=[.list (bX k) s ((xs.map aD).map λa=>[a])]) rfl (by rw[bZ,bZ,aD,Dk]) (by rw[aR,aR,aK,fx,zv _ h2];rfl) c rfl ?_⟩;rw[aK,aM,aR,aR,aR,aR,aR,aK,fx,hf];rfl
def Xp{z}{h}:∀xs:List AV,sd z h (xs.map λa=>[a])=(xs.map (lT z h)).map λa=>[a]
 | []=>rfl
 |x::xs=>by rw[eL,sd,Xp xs];rfl
def Xq{z}{h}:∀b:List UInt8,sd z h (bf b)=bf b
 | []=>rfl
 |a::b=>by show sd z h (lQ a::bf b)=_;rw[sd,Xq b];rfl
def xv(h:ar)(x:AV)(v:Vl):Prop:=vZ (lT 4 h x) v/\aK 0 0 0 (lT 4 h x)=ah
def Ap(h:ar)(xs:List AV)(vs:List Vl):Prop:=xs.length=vs.length/\∀(i:Nat) x v,xs[i]?=aa x->vs[i]?=aa v->xv h x v
def Ap.nil{h}:Ap h [] []:=⟨rfl,λi x v q=>by simp at q⟩
def Ap.cons{h}{x}{v}{xs}{vs}(q:xv h x v)(hs:Ap h xs vs):Ap h (x::xs) (v::vs):=by
 refine⟨by simp[hs.1],λi y w hy hw=>?_⟩;cases i with|zero=>simp at hy hw;subst hy;subst hw;exact q|succ i=>simp at hy hw;exact hs.2 i y w hy hw
def xv.int{h}(n)(hn:0<=n/\n<=4611686018427387903):xv h (.iface 3 (.v (.int .i64 n))) (.int n):=⟨.int n hn,rfl⟩
def xv.text{h}(k)(s)(b)(hs:b≠[]->s=1)(hb:b.length<=1099511620000):xv h (.iface 28 (.list k s (bf b))) (.text b):=by unfold xv;rw[lT,lT,Xq];exact⟨.text _ s b hs hb,by simp[aK,fx,kL]⟩
def asg{z}{ae:List (List AV)}(hr:∀r∈ae,r.length=z){i}{r}(h:ae[i]?=aa r):(ae.flatten.drop (i * z)).take z=r:=by
 have hl:=hr r (dy h);refine rW λj=>?_;rw[o7];split
 ·rename_i hj;rw[pX,aj0 hr i j hj,h];rfl
 ·rename_i hj;rw[u7 ai]
def asl{z}(hz:0<z):∀ae:List (List AV),(∀r∈ae,r.length=z)->yE z ae.flatten 0 ae.length=ae:=by
 intro ae hr;refine rW λi=>?_;unfold yE;rw[ey];rcases ez i ae.length with hi|hi
 ·rw[y8 hi,ft,Nat.zero_add,asg hr (aU hi),aU hi]
 ·rw[u7 (by simpa using hi),u7 hi];rfl
def xv.list{h}{vs}{ae}{b}(hb:h.boxes[b]?=aa ae.flatten)(hr:oL vs ae)(hm:ae.length<=1000000):xv h (.iface 96 (.agg (im 3::im 0::sv []::[.arr b 0 ae.length ae.length]))) (.list vs):=by
 have hl:∀r∈ae,r.length=4:=λr gI=>by obtain⟨i,hi⟩:=vd gI;have cY:=(aW.1 hi).1;exact(hr.2 i _ r (aU (by rw[<-hr.1];exact cY)) hi).len
 have e:lT 4 h (.iface 96 (.agg (im 3::im 0::sv []::[.arr b 0 ae.length ae.length])))=.iface 96 (.agg (aM 3 0 [] .held 4 (fj ae))):=by unfold im sv aM;simp only[lT,mL,hb];rw[aH ⟨by rw[oh hl];omega,by decide⟩,asl aZ ae hl];rfl
 have hv:dm (.list vs) (aM 3 0 [] .held 4 ae):=.list vs .held 4 ae hr.1 (λ_=>rfl) hm hr.2;obtain⟨h1,h2⟩:=dm.hold _ _ hv;have e2:bZ (aM 3 0 [] .held 4 ae)=aM 3 0 [] .held 4 (fj ae):=rfl;rw[e2] at h1 h2;unfold xv;rw[e];exact⟨.val _ _ h1,by simpa [aK] using h2⟩
def Ap.oi{h}{xs}{vs}(q:Ap h xs vs):uX (xs.map (lT 4 h)) vs/\∀a∈xs.map (lT 4 h),aK 0 0 0 a=ah:=by
 refine⟨⟨by simp[q.1],λi x v hx hv=>?_⟩,λa ha=>?_⟩
 ·rw[ey] at hx;cases hy:xs[i]? with
  |none=>rw[hy] at hx;cases hx
  |some y=>rw[hy] at hx;injection hx with hx;subst hx;exact(q.2 i y v hy hv).1
 ·obtain⟨y,hy,rfl⟩:=kC.1 ha;obtain⟨i,hi⟩:=vd hy;have cY:=(aW.1 hi).1;exact(q.2 i y _ hi (aU (by rw[<-q.1];exact cY))).2
def Ye(h)(bA)(k)(s)(xs)(vs)(hr:Ap h xs vs)(hs:xs≠[]->s=1)(hl:xs.length<=1000)(ht:bA.length<=1099511620000)(Bh:gQ (.list vs)<=16)(Bj:(dU (.list vs)).length<=1099511600000):
 W5.call 114 [.v (.string (bs bA)),.list k s (xs.map λa=>[a])] h=aa (.ret (im ((uw bA (.list vs):Nat):Int)),h):=by
 obtain⟨h1,h2⟩:=hr.oi;obtain⟨r,h',c,rfl⟩:=akZ ⟨[],[],0,[]⟩ vJ bA (bX k) s (xs.map (lT 4 h)) vs h1 (λq=>hs (by simpa using q)) (by simpa using hl) h2 ht Bh Bj;refine aj9 (b7:=[.v (.string (bs bA)),.list (bX k) s ((xs.map (lT 4 h)).map λa=>[a])]) rfl rfl ?_ ?_ c
 ·rw[mL,mL,mL,lT,Xp];rfl
 ·simp only[aR,aK,fx,zv _ h2,Bool.and_self]
def ze.hold{x}{v}(h:ze x v):ze (aD x) v/\aK 0 0 0 (aD x)=ah:=by
 cases h with|int n hn=>exact⟨.int n hn,rfl⟩|text k s b hs hb=>rw[aD,aD,qO];exact⟨.text _ s b hs hb,by simp[aK,fx,kL]⟩
def xE.hold{xs}{vs}(h:xE xs vs):xE (xs.map aD) vs/\∀a∈xs.map aD,aK 0 0 0 a=ah:=by
 refine⟨⟨by simp[h.1],λi x v hx hv=>?_⟩,λa ha=>?_⟩
 ·rw[ey] at hx;cases hy:xs[i]? with
  |none=>rw[hy] at hx;cases hx
  |some y=>rw[hy] at hx;injection hx with hx;subst hx;exact(h.2 i y v hy hv).hold.1
 ·obtain⟨y,hy,rfl⟩:=kC.1 ha;obtain⟨i,hi⟩:=vd hy;have cY:=(aW.1 hi).1;exact(h.2 i y _ hi (aU (by rw[<-h.1];exact cY))).hold.2
def anl(k)(s)(xs)(vs)(hr:xE xs vs)(hs:xs≠[]->s=1)(hl:xs.length<=1000)(Bh:gQ (.list vs)<=16)(Bj:(dU (.list vs)).length<=1099511600000):
 ∃t,∀h,W5.call 79 [.list k s (xs.map λa=>[a])] h=aa (.ret (.list t 1 (bf (dU (.list vs)))),h):=by
 obtain⟨h1,h2⟩:=hr.hold;obtain⟨r,h',c,t,rfl⟩:=ank ⟨[],[],0,[]⟩ vJ (bX k) s (xs.map aD) vs h1 (λq=>hs (by simpa using q)) (by simpa using hl) Bh Bj;exact⟨bX t,ig (L:=L5) (b7:=[.list (bX k) s ((xs.map aD).map λa=>[a])]) rfl (by rw[bZ,bZ,aD,Dk]) (by rw[aR,aR,aK,fx,zv _ h2];rfl) c rfl (by simp[aK,fx,kL])⟩
def U9(k0)(s0)(xs:List AV)(y z)(ae)(ag au)(hx:RL (.list k0 s0 (xs.map λa=>[a])) ae)(hy:IL y ag)(hz:IL z au)(jG:au.length<=1099511627776):
 (∃e,fV ae ag au=([],aB,e)/\∀h,W5.call 76 [.agg [.list k0 s0 (xs.map λa=>[a]),y],z] h=aa (.ret (.tuple [.list .nil 0 [],.v (.bool aB),.v (.int .i64 e)]),h))∨
 ∃l,fV ae ag au=(l,ah,0)/\l.length=ae.length/\∀h,W5.call 76 [.agg [.list k0 s0 (xs.map λa=>[a]),y],z] h=aa (.ret (.tuple [.list .held 1 (ints l),.v (.bool ah),.v (.int .i64 0)]),h):=by
 obtain⟨h1,h2⟩:=hx.hold;obtain⟨h3,h4⟩:=hy.hold;obtain⟨h5,h6⟩:=hz.hold;have ea:bZ [.agg [.list k0 s0 (xs.map λa=>[a]),y],z]=[.agg [.list (bX k0) s0 ((xs.map aD).map λa=>[a]),aD y],aD z]:=by rw[bZ,aD,bZ,bZ,bZ,aD,Dk];rfl
 have ef:aR 0 0 0 [.agg [.list (bX k0) s0 ((xs.map aD).map λa=>[a]),aD y],aD z]=ah:=by have hf:=zv _ h2;rw[aR,aK,aR,aR,aR,aR,aK,fx,hf,h4,h6];rfl
 rcases ae3 (bX k0) s0 (xs.map aD) (aD y) (aD z) ae ag au h1 h3 h5 jG with⟨e,e1,hc⟩|⟨l,e1,e2,hc⟩
 ·exact .inl ⟨e,e1,ig (L:=L5) rfl ea ef (hc _) rfl rfl⟩
 ·exact .inr ⟨l,e1,e2,ig (L:=L5) rfl ea ef (hc _) rfl (by simp[aK,aR,nL,sV])⟩
def Gh:Tryz.f26.results.toList=[.tmp 6]:=aw
def EW{b}:gH aq 50 (.ptr (.box b) 0) 0=aa (.ptr (.box b) 0):=aw
def EX{b}:gH aq 50 (.ptr (.box b) 0) 1=aa (.ptr (.box b) 1):=aw
def IM:isIface aq 3=aa aB:=aw
def Rl:isIface aq 28=aa aB:=aw
def amh:isIface aq 96=aa aB:=aw
def VJ(t u v)(x y z):gG aq 180 3 [(0,.iface t x),(1,.iface u y),(2,.iface v z)]=aa (.list .tight 1 [[.iface t x],[.iface u y],[.iface v z]]):=aw
def Tn(a b)(t):(dU (.list [.int a,.int b,.text t])).length<=60+t.length:=by
 have h1:=oX 9 (0+1+1+1);have h2:=oX 9 (mr a);have h3:=oX 9 (mr b);have h4:=oX 9 t.length;simp only[dU,jn,jd,dM,lP] at *
 omega
def vm:bN 4=ah:=by decide+kernel
def qK{a}(h:bN a=ah)(n):fH a n=((bH a.toNat n:Nat):Int):=by unfold fH;rw[aH h]
def rq{a}(h:elem a=ah):bN ((a:Nat):Int)=ah:=by unfold bN;rw[dW,h,Bool.and_true];have:=(elem_iff.1 h).1;exact b8 ai
def Cz{a}(h:bN a=ah):elem a.toNat=ah:=by unfold bN at h;rw[bI] at h;exact h.2
def EV{a}(h:bN a=ah):1<=a/\a<=2147483578:=by obtain⟨n,rfl,h1,h2,h3⟩:=CA h;have:P=2147483579:=rfl;omega
def aje{a}(h:bN a=ah)(n):bN ((bH a.toNat n:Nat):Int)=ah:=rq (xd (Cz h) n)
def wy{a}(h:bN a=ah)(n):bN (fH a n)=ah:=by rw[qK h];exact aje h n
def zx{a b}(h:bN a=ah)(k:bN b=ah):jL a b=((a.toNat * b.toNat%P:Nat):Int):=by unfold jL;rw[aH ⟨h,k⟩]
def ajd{a b}(h:bN a=ah)(k:bN b=ah):bN (jL a b)=ah:=by rw[zx h k];exact rq (HE (Cz h) (Cz k))
def aws(h:ar)(key e s:Int)(kt:Tok)(st:Nat)(text:List UInt8)(bT:text≠[]->st=1)(hl:text.length<=1000000):
 ∃r h',W5.call 26 [im key,.list kt st (bf text),.agg [im e,im s]] h=aa (r,h')/\r=.ret (.v (.bool (sW key text e s)))/\Ext h h':=by
 have c1:=Np key;have bx:(AV.agg [im e,im s]).cd=aa [im e,im s]:=rfl;have l0:=Ru (bg h [im e,im s]);have l1:=Rv (bg h [im e,im s]);have kv:ao (sW key text e s=(bN key&&cA e&&cA s&&decide (e=((uT ((bH Gn s * bH key.toNat (0 - e)%P:Nat):Int) key text:Nat):Int)))):=⟨by rw[Int.zero_sub];rfl⟩;generalize sW key text e s=res at *
 refine di rfl Tryz.func26 rfl ?_;unfold im at *
 by_cases hA:e<0∨s<0
 ·have d1:decide ((if s<e then s else e)<0)=ah:=b8 (by split<;>omega);have kr:ao (res=aB):=⟨by
   rw[kv.out];unfold cA;rcases hA with q|q
   ·rw[cS (ai:¬0<=e)];simp
   ·rw[cS (ai:¬0<=s)];simp⟩
  clear hA;refine bK @Gh @EW @EX (az @bu (az @IW @DH)) ?_;exact⟨_,_,rfl,by rw[kr.out],.push _ _⟩
 have d1:decide ((if s<e then s else e)<0)=aB:=cS (by split<;>omega);by_cases hB:1073741789<=e∨1073741789<=s
 ·have d2:decide (1073741789<=(if e<s then s else e))=ah:=b8 (by split<;>omega);have kr:ao (res=aB):=⟨by
   rw[kv.out];unfold cA Qi;rcases hB with q|q
   ·rw[cS (ai:¬e<1073741789)];simp
   ·rw[cS (ai:¬s<1073741789)];simp⟩
  clear hA hB;refine bK @Gh @EW @EX (az @bu (az @IW @DH)) ?_;exact⟨_,_,rfl,by rw[kr.out],.push _ _⟩
 have d2:decide (1073741789<=(if e<s then s else e))=aB:=cS (by split<;>omega);have aG:0<=e:=by omega
 have pE:e<1073741789:=by omega
 have wQ:0<=s:=by omega
 have bD:s<1073741789:=by omega
 clear hA hB;cases hC:bN key with
 |false=>rw[hC] at c1;have kr:ao (res=aB):=⟨by rw[kv.out,hC];rfl⟩;clear hC;refine bK @Gh @EW @EX (az @bu (az @IW @DH)) ?_;exact⟨_,_,rfl,by rw[kr.out],.push _ _⟩
 |true=>
  rw[hC] at c1;have c2:=aa6 4 s;have c3:=aa6 key (0 - e);have c4:=E7 (fH 4 s) (fH key (0 - e));have hr:=ajd (wy vm s) (wy hC (0 - e));have hR:jL (fH 4 s) (fH key (0 - e))=((bH Gn s * bH key.toNat (0 - e)%P:Nat):Int):=by rw[zx (wy vm s) (wy hC (0 - e)),qK vm,qK hC,dW,dW];rfl
  have kr:ao (res=decide (e=((uT (jL (fH 4 s) (fH key (0 - e))) key text:Nat):Int))):=⟨by rw[kv.out,hC,hR,uK.2 (show okF e from⟨aG,pE⟩),uK.2 (show okF s from⟨wQ,bD⟩)];rfl⟩;have hk:=EV hC;have mP:=EV hr;clear hC hR hr;generalize jL (fH 4 s) (fH key (0 - e))=R at *
  have bR:=Tn R key text;obtain⟨te,c5⟩:=anl .tight 1 [.iface 3 (.v (.int .i64 R)),.iface 3 (.v (.int .i64 key)),.iface 28 (.list kt st (bf text))] [.int R,.int key,.text text]
   (.cons (.int R ⟨ai,by omega⟩) (.cons (.int key ⟨ai,by omega⟩) (.cons (.text kt st text bT ai) .nil))) (λ_=>rfl) bJ (by simp[gQ,iE]) ai
  have c6:=akn yJ (dU (.list [.int R,.int key,.text text])) te ai aZ;have hh:nj (gO yJ (dU (.list [.int R,.int key,.text text])))=uT R key text:=rfl;rw[hh] at c6;simp only[eL,wc] at c5;generalize uT R key text=n at *
  rw[show yJ=[115,105,103,110] from rfl] at c6;have wn:IntKind.i64.wrap (0 - e)=0 - e:=gh ai ai;unfold im at *
  clear bR hh hk mP;refine bK @Gh @EW @EX (az @bu (az @IW @DH)) ?_;refine eJ mA aw ?_;refine cX @Gh @EW @EX ?_;refine eJ mA aw ?_;refine bK @Gh @EW @EX (az @IM (az @Rl @VJ)) ?_;exact⟨_,_,rfl,by rw[kr.out],.push _ _⟩
def Gj:Tryz.f68.results.toList=[.tmp 6,.tmp 7]:=aw
def S4:Tryz.f56.results.toList=[.tmp 6,.tmp 7]:=aw
def rN(aj row:List Int)(k:Nat):Nat:=(bO k).foldl (λx j=>x * bH (al aj j).toNat (al row j)%P) 1
def Sy(aj row)(k):rN aj row (k+1)=rN aj row k * bH (al aj k).toNat (al row k)%P:=by unfold rN;rw[nD,oI];rfl
def Mj{aj row}(h:aj.all bN=ah):∀k,k<=aj.length->elem (rN aj row k)=ah
 |0,_=>A4
 |k+1,hk=>by rw[Sy];refine HE (Mj h k ai) (xd (Cz ?_) _);rw[eK] at h;exact h _ (by rw[fB ai];exact iK _)
def uQ(ae:List (List Int))(ag aj:List Int)(row:Int):Int × Int:=
 if jD ae ag aj≠0 then (0,jD ae ag aj) else if decide (row<0)||decide ((ae.length:Int)<=row) then (0,1) else (((ja aj (ae.getD row.toNat []):Nat):Int),0)
def Wg{ae}{ag aj}(h:jD ae ag aj=0):de ae ag=0/\aj.length=bP ae/\aj.all bN=ah:=by
 unfold jD at h;split at h
 ·rename_i q;exact absurd h q
 ·rename_i q;split at h
  ·rename_i q2;rw[bI,decide_eq_true_eq] at q2;exact⟨by simpa using q,q2.1,q2.2⟩
  ·cases h
def aa9(h:ar)(x y z:AV)(ae:List (List Int))(ag aj:List Int)(hx:RL x ae)(hy:IL y ag)(hz:IL z aj)(hl:aj.length<=1000000)(row:Int):
 ∃r h',W5.call 68 [.agg [x,y],z,im row] h=aa (r,h')/\r=.ret (.tuple [im (uQ ae ag aj row).1,im (uQ ae ag aj row).2])/\Ext h h':=by
 have bx:=tU hx hy;have c1:=Wz x y z ae ag aj hx hy hz hl;have b0:=bg h [x,y];have l0:=uM b0;have l1:=qS b0;have ln:=hx.dQ;have kx:=ao.mk (az hx hz);clear hx hy b0;have pJ:ao (jD ae ag aj≠0->uQ ae ag aj row=(0,jD ae ag aj)):=⟨λq=>by unfold uQ;rw[aH q]⟩;have oQ:ao (jD ae ag aj=0->row<0∨(ae.length:Int)<=row->uQ ae ag aj row=(0,1)):=⟨λq p=>by
  unfold uQ;rw[aJ (by simp[q]),aH];rcases p with p|p
  ·rw[b8 p];rfl
  ·rw[b8 p];simp⟩
 have Iz:ao (jD ae ag aj=0->¬row<0->¬(ae.length:Int)<=row->uQ ae ag aj row=(((ja aj (ae.getD row.toNat []):Nat):Int),0)):=⟨λq p1 p2=>by unfold uQ;rw[aJ (by simp[q]),aJ (by rw[cS p1,cS p2];simp)]⟩;have Ff:=λq=>@Wg ae ag aj q;have kck:=ao.mk Ff;clear Ff;generalize uQ ae ag aj row=res at *
 unfold im at *
 refine di rfl Tryz.func68 rfl ?_;by_cases h0:jD ae ag aj=0;rotate_left 1
 ·have kr:=ao.mk (pJ.out h0);generalize jD ae ag aj=q at *
  refine bQ @Gj @bu ?_;exact⟨_,_,rfl,by rw[kr.out],.push _ _⟩
 rw[h0] at c1;by_cases h1:row<0
 ·have d1:decide (row<0)=ah:=b8 h1;have kr:=ao.mk (oQ.out h0 (.inl h1));clear h1 h0;refine cX @Gj @bu @dK ?_;exact⟨_,_,rfl,by rw[kr.out],.push _ _⟩
 have d1:decide (row<0)=aB:=cS h1;by_cases h2:(ae.length:Int)<=row
 ·have d2:decide ((ae.length:Int)<=row)=ah:=b8 h2;have kr:=ao.mk (oQ.out h0 (.inr h2));clear h1 h0 h2;refine cX @Gj @bu @dK ?_;exact⟨_,_,rfl,by rw[kr.out],.push _ _⟩
 have d2:decide ((ae.length:Int)<=row)=aB:=cS h2;have kr:=ao.mk (Iz.out h0 h1 h2);obtain⟨q1,q2,q3⟩:=kck.out h0;obtain⟨w1,w2,w3,w4⟩:=qp q1;have dV:row.toNat<ae.length:=by omega
 have FB:=w3 _ (iK dV);rw[<-lU (t:=ae) dV] at FB;generalize hR:ae.getD row.toNat []=R at *
 have vn:R.length=aj.length:=by rw[FB.1,q2]
 have db:aj.length<=64:=by rw[<-vn];exact FB.2.2.1
 obtain⟨k,s,xs,rfl,hs,dR,eG⟩:=kx.out.1;obtain⟨kz,sz,rfl,dP⟩:=kx.out.2;have bD:s=1:=hs (by intro q;rw[q] at dV;simp at dV);subst bD;obtain⟨a,fS⟩:∃a,xs[row.toNat]?=aa a:=⟨_,aU ai⟩;have hv:ae[row.toNat]?=aa R:=by rw[<-hR,eE,aU dV];rfl
 obtain⟨ka,sa,rfl,jj⟩:=eG _ a R fS hv;have ld:=mf (H:=h.push [.list k 1 (xs.map λa=>[a]),y]) (s:=1) fS;have kk:=ao.mk (az dP (az jj q3));have E9:0<=row:=by omega
 have yb:row<(ae.length:Int):=by omega
 have cY:(xs.map λa=>[a]).length=ae.length:=by rw[bF];exact dR
 have vw:=dE R;have Qn:=dE aj;have u23:=dY;have u22:=jf;have z23:=iA;have z3:=fR;clear hs eG dP jj fS hv hR FB w1 w2 w3 w4 q1 q2 q3 pJ oQ Iz h0 kx kck hz h1 h2;refine cX @Gj @bu @dK ?_;refine cH (λm e H=>∃j:Nat,j<=aj.length/\m=aj.length - j/\e.get 2=.v (.int .i64 row)/\e.get 3=.ptr (.box h.boxes.length) 0/\e.get 6=.v (.int .i64 (rN aj R j:Nat))/\e.get 28=.list kz sz (ints aj)/\e.get 29=.v (.int .i64 (aj.length:Nat))/\e.get 30=.v (.int .i64 (j:Nat))/\e.defers=[]/\H=h.push [.list k 1 (xs.map λa=>[a]),y]) ?_ aj.length _ _ ?_;rotate_left 1
 ·refine⟨0,cD _,rfl,?_,?_,?_,?_,?_,?_,?_,rfl⟩<;>exact gR
 rintro m e H ⟨j,hj,rfl,g2,g3,g6,g28,g29,g30,hd,rfl⟩;by_cases aC:j<aj.length
 ·have jz:sz=1:=kk.out.1 (by intro q;rw[q] at aC;simp at aC);subst jz;have vp:sa=1:=kk.out.2.1 (by intro q;rw[q] at vn;simp at vn;omega);subst vp;have fw:(j:Int)<(aj.length:Int):=by omega
  have alN:(j:Int)<(R.length:Int):=by omega
  have lc:=ev (H:=h.push [.list k 1 (xs.map λa=>[a]),y]) (l:=aj) (i:=j) (s:=1) aC;have lr:=ev (H:=h.push [.list k 1 (xs.map λa=>[a]),y]) (l:=R) (i:=j) (s:=1) ai;have he:bN (al aj j)=ah:=by have:=kk.out.2.2;rw[eK] at this;exact this _ (by rw[fB aC];exact iK _)
  have c2:=K5 (al aj j) (al R j);have c3:=E7 ((rN aj R j:Nat):Int) (fH (al aj j) (al R j));have hK:=rq (Mj (row:=R) kk.out.2.2 j hj);have e3:jL ((rN aj R j:Nat):Int) (fH (al aj j) (al R j))=((rN aj R (j+1):Nat):Int):=by rw[zx hK (wy he _),qK he,Sy,dW,dW]
  have e4:ni (al aj j)=0:=by unfold ni;rw[aH he]
  have e5:mM ((rN aj R j:Nat):Int) (fH (al aj j) (al R j))=0:=by unfold mM;rw[aH ⟨hK,wy he _⟩]
  rw[e4] at c2;rw[e3,e5] at c3;clear he hK e3 e4 e5;generalize fH (al aj j) (al R j)=pw at *
  generalize al aj j=cj at *
  generalize al R j=rj at *
  unfold im at *
  refine cX @Gj @dK @bp ?_;exact⟨aj.length - (j+1),by omega,j+1,by omega,rfl,by simp⟩
 ·have:j=aj.length:=by omega
  subst this;have e:rN aj R aj.length=ja aj R:=rfl;refine bC @Gj ?_;exact⟨_,_,rfl,by rw[kr.out,<-e],.push _ _⟩
def uo(ae:List (List Int))(ag aj:List Int)(p:Int × Int):Bool × Int:=
 if jD ae ag aj≠0 then (aB,jD ae ag aj) else if uR ae p=aB then (aB,340) else (decide (bH Gn p.2=ja aj (ae.getD p.1.toNat [])),0)
def ajQ(h:ar)(x y z:AV)(ae:List (List Int))(ag aj:List Int)(hx:RL x ae)(hy:IL y ag)(hz:IL z aj)(hl:aj.length<=1000000)(a v:Int):
 ∃r h',W5.call 56 [.agg [x,y],z,.agg [im a,im v]] h=aa (r,h')/\r=.ret (.tuple [.v (.bool (uo ae ag aj (a,v)).1),im (uo ae ag aj (a,v)).2])/\Ext h h':=by
 have bx:=tU hx hy;have b2:(AV.agg [im a,im v]).cd=aa [im a,im v]:=rfl;have c1:=Wz x y z ae ag aj hx hy hz hl;have c2:=aq0 x y ae ag hx hy a v;obtain⟨_,H2,c3,rfl,x3⟩:=aa9 ((h.push [x,y]).push [im a,im v]) x y z ae ag aj hx hy hz hl a;have c4:=K5 4 v;have e4:ni 4=0:=by unfold ni;rw[aH vm]
 rw[e4,qK vm] at c4;have q1:((h.push [x,y]).push [im a,im v]).boxes[h.boxes.length]?=aa [x,y]:=bh (bg h [x,y]);have q2:=bg (h.push [x,y]) [im a,im v];have l0:=uM q1;have l1:aI aq Gt ((h.push [x,y]).push [im a,im v]) 81 (.ptr (.box (h.push [x,y]).boxes.length) 0)=aa (.agg [im a,im v]):=by rw[iP aw (by kernel_rfl:dJ aq 81=aa 2) q2 (aL 2)];rfl
 have l2:=Ru q2;have l3:aI aq Gt H2 3 (.ptr (.box (h.push [x,y]).boxes.length) 1)=aa (im v):=Rv (x3.box _ _ q2);have kX:=ao.mk (((Ext.push h [x,y]).trans (.push _ [im a,im v])).trans x3);have X1:=ao.mk ((Ext.push h [x,y]).trans (.push _ [im a,im v]));have pJ:ao (jD ae ag aj≠0->uo ae ag aj (a,v)=(aB,jD ae ag aj)):=⟨λq=>by unfold uo;rw[aH q]⟩;have oQ:ao (jD ae ag aj=0->uR ae (a,v)=aB->uo ae ag aj (a,v)=(aB,340)):=⟨λq p=>by unfold uo;rw[aJ (by simp[q]),aH p]⟩;have Iz:ao (jD ae ag aj=0->uR ae (a,v)=ah->uo ae ag aj (a,v)=(decide (bH Gn v=ja aj (ae.getD a.toNat [])),0)):=⟨λq p=>by unfold uo;rw[aJ (by simp[q]),aJ (by simp[p])]⟩;have vB:ao (jD ae ag aj=0->uR ae (a,v)=ah->uQ ae ag aj a=(((ja aj (ae.getD a.toNat []):Nat):Int),0)):=⟨λq p=>by unfold uR at p;simp only[bI,decide_eq_true_eq] at p;unfold uQ;rw[aJ (by simp[q]),aJ];rw[cS (ai:¬a<0),cS (ai:¬(ae.length:Int)<=a)];simp⟩;clear hx hy hz q1 q2 x3 e4;generalize uo ae ag aj (a,v)=res at *
 refine di rfl Tryz.func56 rfl ?_;by_cases h0:jD ae ag aj=0;rotate_left 1
 ·have kr:=ao.mk (pJ.out h0);clear c3 c2 l3;generalize jD ae ag aj=q at *
  unfold im at *
  refine bQ @S4 @bu ?_;exact⟨_,_,rfl,by rw[kr.out],X1.out⟩
 rw[h0] at c1;cases h1:uR ae (a,v) with
 |false=>
  have kr:=ao.mk (oQ.out h0 h1);rw[h1] at c2;clear c3 h1 h0 l3;unfold im at *
  refine bQ @S4 @bu ?_;exact⟨_,_,rfl,by rw[kr.out],X1.out⟩
 |true=>
  have kr:=ao.mk (Iz.out h0 h1);rw[vB.out h0 h1] at c3;rw[h1] at c2;clear h1 h0;have hG:(4:Int).toNat=Gn:=rfl;rw[hG] at c4;have hd:decide (bH Gn v=ja aj (ae.getD a.toNat []))=decide (((bH Gn v:Nat):Int)=((ja aj (ae.getD a.toNat []):Nat):Int)):=by rw[decide_eq_decide];omega
  rw[hd] at kr;generalize ((bH Gn v:Nat):Int)=p1 at *
  generalize ((ja aj (ae.getD a.toNat []):Nat):Int)=p2 at *
  clear pJ oQ Iz vB hd hG;unfold im at *
  refine bK @S4 @bu @KN @KO ?_;exact⟨_,_,rfl,by rw[kr.out],kX.out⟩
def Aj:Tryz.f44.results.toList=[.tmp 6,.tmp 7,.tmp 8]:=aw
def OF{T E}{n}(hu:aq.underlying T=aa (.slice E))(hi:∃i,aq.info? E=aa i/\i.size=n/\i.bytes<=64/\(i.zero.map λz=>z.cells.size)=aa n)(hn:0<n){H}{k}{n0 sz}{es}{r}
 (hl:es.length<1000000) (hs:sz=n∨(es=[]/\k=.nil)) (hk:du n0 H k):hU aq H #[T,T] (.list k sz es) (.list .tight n [r])=aa (.list (.free H.tn) n (es++[r]),H.app k):=by
 obtain⟨i,h1,q2,q3,h4⟩:=hi;have hb:=ri (ai:es.length+1<=1000000) q3;have:=Hs (P:=aq) (h:=H) (n0:=n0) (k:=k) (sz:=sz) (es:=es) (new:=[r]) (x:=.list .tight n [r]) (t1:=T) hu (.inl ⟨E,hu⟩) h1 ai (by rw[q2];exact h4) (by rw[q2];unfold np rowsOf;simp) bJ (by simp;omega) (by simp;omega) (by rw[q2];exact hs) hk
 rwa [q2] at this
def ZG:∃i,aq.info? 81=aa i/\i.size=2/\i.bytes<=64/\(i.zero.map λz=>z.cells.size)=aa 2:=by
 have h:(match aq.info? 81 with|some i=>kK i.size 2&&Oe i.bytes 64&&decide ((i.zero.map λz=>z.cells.size)=aa 2)|none=>aB)=ah:=aw;cases hi:aq.info? 81 with
 |none=>rw[hi] at h;cases h
 |some i=>rw[hi] at h;simp only[bI,decide_eq_true_eq] at h;exact⟨i,rfl,lD h.1.1,jS h.1.2,h.2⟩
def mg(p:Int × Int):List AV:=[.v (.int .i64 p.1),.v (.int .i64 p.2)]
def jB(l:List (Int × Int)):List (List AV):=l.map mg
def SL(x:AV)(l:List (Int × Int)):Prop:=∃k s,x=.list k s (jB l)/\(l≠[]->s=2)
def qa(ae:List (List Int))(s:List Int):List (Int × Int):=(bO ae.length).map λi=>(((i:Nat):Int),px (ae.getD i []) s)
def Pa(ae)(s):(qa ae s).length=ae.length:=by unfold qa;simp
def ai1{ae}{s r}{i}(h:ae[i]?=aa r):(qa ae s)[i]?=aa (((i:Nat):Int),px r s):=by unfold qa;have hi:=(aW.1 h).1;rw[ey,y8 hi,ft,eE,h];rfl
def uj(ae:List (List Int))(ag:List Int)(cC:Int)(cJ:List Int):Int:=
 if de ae ag≠0 then de ae ag else if cA cC&&cJ.all cA&&decide ((cJ.length:Int)=(bP ae:Nat) - 1) then 0 else 1
def Gr(h H:ar)(t:Tok):Prop:=Ext h H/\cK H=ah/\du h.tn H t
def Gr.app{h H}{t}(g:Gr h H t):Gr h (H.app t) (.free H.tn):=by have gr:=Grown.one g.2.2 g.2.1 g.1.tn;exact⟨gr.ext g.1 (aL _),gr.ok,gr.can⟩
def Gr.push{h H}{t}(g:Gr h H t)(cs):Gr h (H.push cs) t:=⟨g.1.trans (.push _ _),g.2.1,by rw[AZ];exact g.2.2⟩
def Gr.nil{h H}(x:Ext h H)(o:cK H=ah):Gr h H .nil:=⟨x,o,.inl rfl⟩
def agy(x y)(hx:x.eH=ah)(hy:y.eH=ah):gG aq 22 2 [(0,x),(1,y)]=aa (.list .tight 1 [[x],[y]]):=by cases x<;>first|(cases hx;done)|(cases y<;>first|(cases hy;done)|kernel_rfl)
def IL.eH{x}{l}(h:IL x l):x.eH=ah:=by obtain⟨k,s,rfl,-⟩:=h;rfl
def VC(a b):gG aq 36 1 [(0,.agg [.v (.int .i64 a),.v (.int .i64 b)])]=aa (.list .tight 2 [[.v (.int .i64 a),.v (.int .i64 b)]]):=aw
def af2(a b):nH aq 81 [(0,.v (.int .i64 a)),(1,.v (.int .i64 b))]=aa (.agg [.v (.int .i64 a),.v (.int .i64 b)]):=aw
def aiZ(h:ar)(bB:cK h=ah)(x y z:AV)(ae:List (List Int))(ag cJ:List Int)(cC:Int)(hx:RL x ae)(hy:IL y ag)(hz:IL z cJ)(hl:cJ.length<=1000)(mP:ae.length<=1000000):
 ∃r h',W5.call 44 [.agg [x,y],im cC,z] h=aa (r,h')/\
  ((uj ae ag cC cJ≠0/\r=.ret (.tuple [.list .nil 0 [],.list .nil 0 [],im (uj ae ag cC cJ)]))∨
  (uj ae ag cC cJ=0/\∃t1 s1 t2 s2,r=.ret (.tuple [.list t1 s1 (jB (qa ae (cC::cJ))),.list t2 s2 (ints (cO (cC::cJ))),im 0])/\(qa ae (cC::cJ)≠[]->s1=2)/\s2=1)):=by
 have bx:=tU hx hy;have c1:=Wc x y ae ag hx hy;have c2:=aaD (.list .tight 1 [[.v (.int .i64 cC)]]) [cC] (LF cC) bJ;rw[(bJ:[cC].all cA=cA cC)] at c2;have c3:=aaD z cJ hz ai;have c4:=aid x y ae ag hx hy;obtain⟨z2,gV,c5⟩:=ais (.list .tight 1 [[.v (.int .i64 cC)]]) z [cC] cJ (LF cC) hz (by simp;omega);have b0:=bg h [x,y];have l0:=uM b0;have l1:=qS b0;have lz:=hz.dQ;have bl:=pq cC;have blt:=agy (.list .tight 1 [[.v (.int .i64 cC)]]) z rfl hz.eH;have lx:=hx.dQ;have pJ:ao (de ae ag≠0->uj ae ag cC cJ=de ae ag):=⟨λq=>by unfold uj;rw[aH q]⟩;have oQ:ao (de ae ag=0->uj ae ag cC cJ=if cA cC&&cJ.all cA&&decide ((cJ.length:Int)=(bP ae:Nat) - 1) then 0 else 1):=⟨λq=>by unfold uj;rw[aJ (by simp[q])]⟩;have kok:=ao.mk (λq=>@qp ae ag q);have kcp:=ao.mk (λq=>@tx ae ag q);have kx:=ao.mk (az hx gV);have CT:(bP ae:Int)<=1000000∨de ae ag≠0:=by
  by_cases q:de ae ag=0
  ·have:=(tx q).2;exact .inl ai
  ·exact .inr q
 clear hx hy hz b0 gV;generalize uj ae ag cC cJ=res at *
 unfold im at *
 refine di rfl Tryz.func44 rfl ?_;by_cases h0:de ae ag=0;rotate_left 1
 ·have e1:=pJ.out h0;have kr:=ao.mk (az h0 e1);clear e1 CT c2 c3 c4 c5;generalize de ae ag=q at *
  refine bQ @Aj @bu ?_;exact⟨_,_,rfl,.inl ⟨by rw[kr.out.2];exact kr.out.1,by rw[kr.out.2]⟩⟩
 rw[h0] at c1;have iH:=oQ.out h0;have Yr:=kcp.out h0;have hw:IntKind.i64.wrap ((bP ae:Nat) - 1:Int)=(bP ae:Nat) - 1:=gh ai ai;clear pJ oQ kcp CT;have bad:∀(q:(cA cC&&cJ.all cA&&decide ((cJ.length:Int)=(bP ae:Nat) - 1))=aB),res=1:=λq=>by rw[iH,aJ (by simp[q])]
 have good:∀(q:(cA cC&&cJ.all cA&&decide ((cJ.length:Int)=(bP ae:Nat) - 1))=ah),res=0:=λq=>by rw[iH,aH q]
 have kb:=ao.mk bad;have kg:=ao.mk good;clear bad good iH;cases h1:cA cC with
 |false=>rw[h1] at c2;have kr:ao (res=1):=⟨kb.out (by rw[h1];rfl)⟩;clear h1 h0 c3 c4 c5;refine bQ @Aj @bu ?_;exact⟨_,_,rfl,.inl ⟨by rw[kr.out];decide,by rw[kr.out]⟩⟩
 |true=>
 rw[h1] at c2;cases h2:cJ.all cA with
 |false=>rw[h2] at c3;have kr:ao (res=1):=⟨kb.out (by rw[h1,h2];rfl)⟩;clear h1 h2 h0 c4 c5;refine bQ @Aj @bu ?_;exact⟨_,_,rfl,.inl ⟨by rw[kr.out];decide,by rw[kr.out]⟩⟩
 |true=>
 rw[h2] at c3;by_cases h3:(cJ.length:Int)=(bP ae:Nat) - 1;rotate_left 1
 ·have d3:decide ((cJ.length:Int)=((bP ae:Nat):Int) - 1)=aB:=cS h3;have kr:ao (res=1):=⟨kb.out (by rw[h1,h2,d3];rfl)⟩;clear h1 h2 h3 h0 c5;refine bQ @Aj @bu ?_;exact⟨_,_,rfl,.inl ⟨by rw[kr.out];decide,by rw[kr.out]⟩⟩
 have d3:decide ((cJ.length:Int)=((bP ae:Nat):Int) - 1)=ah:=b8 h3;have kr:ao (res=0):=⟨kg.out (by rw[h1,h2,d3];rfl)⟩;have nR:(cC::cJ).length=bP ae:=by simp;omega
 obtain⟨w1,w2,w3,w4⟩:=kok.out h0;have kw:=ao.mk w3;have ks:=ao.mk nR;rw[List.singleton_append] at kx;obtain⟨k,s,xs,rfl,hs,dR,eG⟩:=kx.out.1;obtain⟨kz,sz,rfl,dP⟩:=kx.out.2;have kk:=ao.mk (az hs (az eG dP));have al9:sz=1:=dP bJ;subst al9;have u23:=dY;have u22:=jf;have u36:=Tryz.underlying36;have z23:=iA;have z3:=fR;have cY:(xs.map λa=>[a]).length=ae.length:=by rw[bF];exact dR
 have vw:=dE (cC::cJ);clear hs eG dP w1 w3 w4 h1 h2 h3 h0 nR kok kb kg;generalize hS:cC::cJ=S at *
 refine cX @Aj @bu @dK ?_;refine bM.gen λe0 aG bE cZ cV=>?_;have f6:e0.get 6=.list .nil 0 []:=by rw[aG];exact gS
 have f7:e0.get 7=.list .nil 0 []:=by rw[aG];exact gS
 have f10:e0.get 10=.list kz 1 (ints S):=by rw[aG];exact gS
 have f45:e0.get 45=.list k s (xs.map λa=>[a]):=by rw[aG];exact gS
 have f46:e0.get 46=.v (.int .i64 (ae.length:Nat)):=by rw[aG];exact gS
 have f47:e0.get 47=.v (.int .i64 (0:Nat)):=by rw[aG];exact gR
 have fd:e0.defers=[]:=by rw[bE];exact gS
 clear aG bE cZ cV c1 c2 c3 c4 c5 l0 l1 bl blt hw d3 lz;refine cH (λm e H=>∃(i:Nat) (t:Tok) (sz:Nat),i<=ae.length/\m=ae.length - i/\ao (Gr h H t)/\ao (sz=2∨(jB ((qa ae S).take i)=[]/\t=.nil))/\e.get 6=.list t sz (jB ((qa ae S).take i))/\e.get 7=.list .nil 0 []/\e.get 10=.list kz 1 (ints S)/\e.get 45=.list k s (xs.map λa=>[a])/\e.get 46=.v (.int .i64 (ae.length:Nat))/\e.get 47=.v (.int .i64 (i:Nat))/\e.defers=[]) ?_ ae.length _ _ ?_;rotate_left 1
 ·exact⟨0,.nil,0,cD _,rfl,⟨Gr.nil (.push _ _) bB⟩,⟨.inr ⟨rfl,rfl⟩⟩,f6,f7,f10,f45,f46,f47,fd⟩
 clear f6 f7 f10 f45 f46 f47 fd;rintro m e H ⟨i,t,sz,hi,rfl,kG,ksz,g6,g7,g10,g45,g46,g47,hd⟩;by_cases aC:i<ae.length
 ·have bD:s=1:=kk.out.1 (by intro q;rw[q] at aC;simp at aC);subst bD;obtain⟨a,fS⟩:∃a,xs[i]?=aa a:=⟨_,aU ai⟩;obtain⟨r,hv⟩:∃r,ae[i]?=aa r:=⟨_,aU aC⟩;have ld:=mf (H:=H) (s:=1) fS;have Zh:=kk.out.2.1 i a r fS hv;have FB:=kw.out r (dy hv);have c6:=avX a (.list kz 1 (ints S)) r S Zh ⟨_,_,rfl,λ_=>rfl⟩ ai (by have:=ks.out;omega);have fw:(i:Int)<(ae.length:Int):=by omega
  have ap:=OF (T:=36) (r:=mg (((i:Nat):Int),px r S)) u36 ZG aZ (by unfold jB;rw[bF,fm];omega) ksz.out kG.out.2.2;have kG2:=ao.mk kG.out.app;have e9:jB ((qa ae S).take i)++[mg (((i:Nat):Int),px r S)]=jB ((qa ae S).take (i+1)):=by rw[fE (ai1 hv)];unfold jB;simp
  rw[e9] at ap;clear fS hv Zh FB e9;generalize px r S=dv at *
  unfold im mg at *
  refine bK @Aj @bp @af2 @VC ?_;exact⟨ae.length - (i+1),by omega,i+1,_,2,by omega,rfl,kG2,⟨.inl rfl⟩,by simp⟩
 have gx:i=ae.length:=by omega
 subst gx;rw[gK (by rw[Pa];exact aL _)] at g6 ksz;have kX:=ao.mk kG.out.1;have ko:=ao.mk kG.out.2.1;clear kG;refine bC @Aj ?_;refine bM.gen λe0 aG bE cZ cV=>?_;have f6:e0.get 6=.list t sz (jB (qa ae S)):=by rw[aG];simp only[gW,reduceIte,aS,aO];exact g6
 have f7:e0.get 7=.list .nil 0 []:=by rw[aG];simp only[gW,reduceIte,aS,aO];exact g7
 have f61:e0.get 61=.list kz 1 (ints S):=by rw[aG];exact gS
 have f62:e0.get 62=.v (.int .i64 (S.length:Nat)):=by rw[aG];exact gS
 have f63:e0.get 63=.v (.int .i64 (0:Nat)):=by rw[aG];exact gR
 have fd:e0.defers=[]:=by rw[bE];simp only[gW,reduceIte,aS,aO];exact hd
 clear aG bE cZ cV g6 g7 g10 g45 g46 g47 hd;have hSl:S.length<=1001:=by rw[<-hS];simp;omega
 have e4:ni 4=0:=by unfold ni;rw[aH vm]
 clear hS;have db:(cO S).length=S.length:=by unfold cO;simp
 refine cH (λm e H2=>∃(j:Nat) (t2:Tok) (sz2:Nat),j<=S.length/\m=S.length - j/\ao (Gr h H2 t2)/\ao (sz2=1∨((cO S).take j=[]/\t2=.nil))/\e.get 6=.list t sz (jB (qa ae S))/\e.get 7=.list t2 sz2 (ints ((cO S).take j))/\e.get 61=.list kz 1 (ints S)/\e.get 62=.v (.int .i64 (S.length:Nat))/\e.get 63=.v (.int .i64 (j:Nat))/\e.defers=[]) ?_ S.length _ _ ?_;rotate_left 1
 ·exact⟨0,.nil,0,cD _,rfl,⟨Gr.nil kX.out ko.out⟩,⟨.inr ⟨rfl,rfl⟩⟩,f6,f7,f61,f62,f63,fd⟩
 clear f6 f7 f61 f62 f63 fd;rintro m e H2 ⟨j,t2,sz2,hj,rfl,kG,ksz2,g6,g7,g61,g62,g63,hd⟩;by_cases ss:j<S.length
 ·have ld:=ev (H:=H2) (l:=S) (i:=j) (s:=1) ss;have c2:=K5 4 (al S j);rw[e4,qK vm] at c2;have hG:(4:Int).toNat=Gn:=rfl;rw[hG] at c2;have fw:(j:Int)<(S.length:Int):=by omega
  have hv:(cO S)[j]?=aa ((bH Gn (al S j):Nat):Int):=by unfold cO;rw[ey,aU ss,fB ss];rfl
  have ap:=tf (x:=((bH Gn (al S j):Nat):Int)) (es:=(cO S).take j) (by rw[fm];omega) ksz2.out kG.out.2.2;have kG2:=ao.mk kG.out.app;rw[<-fE hv] at ap;have bl:=pq ((bH Gn (al S j):Nat):Int);clear hv hG;generalize ((bH Gn (al S j):Nat):Int)=pv at *
  generalize al S j=sj at *
  unfold im at *
  refine bQ @Aj @bp ?_;exact⟨S.length - (j+1),by omega,j+1,_,1,by omega,rfl,kG2,⟨.inl rfl⟩,by simp⟩
 ·have ou:j=S.length:=by omega
  subst ou;rw[gK ai] at g7 ksz2;refine bC @Aj ?_;refine⟨_,_,rfl,.inr ⟨kr.out,_,_,_,_,rfl,λq=>?_,?_⟩⟩
  ·rcases ksz.out with z|⟨z,-⟩
   ·exact z
   ·exact absurd (List.map_eq_nil_iff.1 z) q
  ·rcases ksz2.out with z|⟨z,-⟩
   ·exact z
   ·exfalso;have h1:=ks.out;have h2:(cO S).length=0:=(by rw[z];rfl);omega
def MP:Tryz.f75.results.toList=[.tmp 2]:=aw
def cq(p:Pr):List AV:=[.v (.int .i64 p.aA),.v (.int .i64 p.no),.v (.int .i64 p.d),.v (.int .i64 p.e)]
def D5:(iB aq 85).bind AV.cd=aa (cq ⟨0,0,0,0⟩):=aw
def sT:dJ aq 85=aa 4:=aw
def Vh:gY aq 85=aa ah:=aw
def af3(a b c d):nH aq 85 [(0,.v (.int .i64 a)),(1,.v (.int .i64 b)),(2,.v (.int .i64 c)),(3,.v (.int .i64 d))]=aa (.agg (cq ⟨a,b,c,d⟩)):=aw
def BU{H:ar}(p):cE aq (H.push (cq ⟨0,0,0,0⟩)) 85 (.ptr (.box H.boxes.length) 0) (.agg (cq p))=aa (H.push (cq p)):=lq rfl sT rfl rfl
def DD{H}{b}{p}(hb:H.boxes[b]?=aa (cq p)):aI aq Gt H 85 (.ptr (.box b) 0)=aa (.agg (cq p)):=by rw[iP Vh sT hb (aL 4)];rfl
def yN(ae:List (List Int))(ag:List Int):Bool:=decide (ae.length<=16)&&decide (de ae ag=0)&&decide (bP ae<=16)
def auA(h:ar)(x y:AV)(ae:List (List Int))(ag:List Int)(hx:RL x ae)(hy:IL y ag):
 ∃r h',W5.call 75 [.agg [x,y]] h=aa (r,h')/\r=.ret (.v (.bool (yN ae ag))):=by
 have bx:=tU hx hy;have c1:=λ(q:ae.length<=16)=>SB x y ae ag hx hy ai;have c2:=Wm x y ae ag hx hy;have b0:=bg h [x,y];have l0:=uM b0;have l1:=qS b0;have ln:=hx.dQ;have kv:ao (yN ae ag=(decide (ae.length<=16)&&decide (de ae ag=0)&&decide (bP ae<=16))):=⟨rfl⟩;clear hx hy b0;generalize yN ae ag=res at *
 unfold im at *
 refine di rfl Tryz.func75 rfl ?_;by_cases h1:ae.length<=16;rotate_left 1
 ·have d1:decide ((ae.length:Int)<=16)=aB:=cS ai;have kr:ao (res=aB):=⟨by rw[kv.out,cS h1];rfl⟩;clear h1 c1;refine cX @MP @bu @dK ?_;exact⟨_,_,rfl,by rw[kr.out]⟩
 have d1:decide ((ae.length:Int)<=16)=ah:=b8 ai;have c1:=c1 h1;by_cases h2:de ae ag=0;rotate_left 1
 ·have d2:decide (de ae ag=0)=aB:=cS h2;have kr:ao (res=aB):=⟨by rw[kv.out,d2];simp⟩;clear h1;generalize de ae ag=q at *
  refine cX @MP @bu @dK ?_;exact⟨_,_,rfl,by rw[kr.out]⟩
 rw[h2] at c1;by_cases h3:bP ae<=16
 ·have d3:decide (((bP ae:Nat):Int)<=16)=ah:=b8 ai;have kr:ao (res=ah):=⟨by rw[kv.out,b8 h1,b8 h2,b8 h3];rfl⟩;clear h1 h2 h3;refine cX @MP @bu @dK ?_;exact⟨_,_,rfl,by rw[kr.out]⟩
 ·have d3:decide (((bP ae:Nat):Int)<=16)=aB:=cS ai;have kr:ao (res=aB):=⟨by rw[kv.out,cS h3];simp⟩;clear h1 h2 h3;refine cX @MP @bu @dK ?_;exact⟨_,_,rfl,by rw[kr.out]⟩
def Nl(n:Int):List AV:=[.v (.int .u32 n)]
def UL(x:AV)(l:List Int):Prop:=(∃k s,x=.list k s (l.map Nl)/\(l≠[]->s=1))/\∀n∈l,0<=n/\n<4294967296
def BM(ag au:List Int)(p:Int × Int):List (Int × Int):=(au.filter λn=>decide (n=al ag p.1.toNat)).map λ_=>p
def rI(ag au:List Int)(l:List (Int × Int)):List (Int × Int):=l.flatMap (BM ag au)
def aoj{ag au}{l:List (Int × Int)}{i}{p}(h:l[i]?=some p):rI ag au (l.take (i+1))=rI ag au (l.take i)++BM ag au p:=by unfold rI;rw[fE h,List.flatMap_append];simp
def ao4(ag au)(p):(BM ag au p).length<=au.length:=by unfold BM;rw[bF];exact List.length_filter_le _ _
def RZ(ag au):∀l:List (Int × Int),(rI ag au l).length<=l.length * au.length
 | []=>by simp[rI]
 |p::l=>by
  have h1:=ao4 ag au p;have h2:=RZ ag au l;unfold rI at *
  rw[List.flatMap_cons,dM,jd,gZ];omega
def amU{H}{l}{i s}{p}(h:l[i]?=aa p):aI aq Gt H 3 (.elem s (jB l) i 0)=aa (.v (.int .i64 p.1)):=by rw[sI fh (row:=mg p) (by unfold jB;rw[ey,h];rfl)];rfl
def amV{H}{l}{i s}{p}(h:l[i]?=aa p):aI aq Gt H 3 (.elem s (jB l) i 1)=aa (.v (.int .i64 p.2)):=by rw[sI fh (row:=mg p) (by unfold jB;rw[ey,h];rfl)];rfl
def Vg:gY aq 81=aa ah:=aw
def Nj:dJ aq 81=aa 2:=aw
def Z6{H}{l}{i s}{p}(h:l[i]?=aa p):aI aq Gt H 81 (.elem s (jB l) i 0)=aa (.agg [.v (.int .i64 p.1),.v (.int .i64 p.2)]):=by rw[LO Vg Nj (row:=mg p) (by unfold jB;rw[ey,h];rfl) (aL 2)];rfl
def A9{sz i}{es}:gH aq 81 (.elem sz es i 0) 0=aa (.elem sz es i 0):=aw
def WN{sz i}{es}:gH aq 81 (.elem sz es i 0) 1=aa (.elem sz es i 1):=aw
def Tl(l):(jB l).length=l.length:=bF _
def aua(l)(p):jB l++[mg p]=jB (l++[p]):=by unfold jB;simp
def Mw:Tryz.f124.results.toList=[.tmp 4]:=aw
def SI:Tryz.f113.results.toList=[.tmp 4]:=aw
def S7:Tryz.f71.results.toList=[.tmp 4]:=aw
def eY(l:List Pr):List (List AV):=l.map cq
def vK(l):(eY l).length=l.length:=bF _
def PL(x:AV)(l:List Pr):Prop:=∃k s,x=.list k s (eY l)/\(l≠[]->s=4)
def DE{H}{l}{i s}{p}(h:l[i]?=aa p):aI aq Gt H 85 (.elem s (eY l) i 0)=aa (.agg (cq p)):=by rw[LO Vh sT (row:=cq p) (by unfold eY;rw[ey,h];rfl) (aL 4)];rfl
def PL.dQ{x}{l}(h:PL x l):dQ aq 29 x=aa (.v (.int .i64 (l.length:Nat))):=by obtain⟨k,s,rfl,-⟩:=h;have u29:=wg;unfold Go.AE.dQ;rw[u29];simp only[vK]
def amk(g:bq)(aF:List AV)(p:Pr->Bool)(h:ar)(x:AV)(l:List Pr)(hx:PL x l)(hl:l.length<=1000000)
 (hp:∀q∈l,∀H,Ext h H->∃H',W5.call g (.agg (cq q)::aF) H=aa (.ret (.v (.bool (p q))),H')/\Ext H H'):
 ∃r h',W5.call 124 [x,.func (.func g) [] aF] h=aa (r,h')/\Ext h h'/\((l.find? p=av/\r=.ret (im (-1)))∨∃(i:Nat) (q:Pr),r=.ret (im (i:Nat))/\l[i]?=aa q/\l.find? p=aa q):=by
 obtain⟨k,s,rfl,hs⟩:=hx;have kp:=ao.mk (az hp hs);clear hp hs;have u29:=wg;have z85:=sT;have cY:=vK l;unfold im;refine di rfl Tryz.func124 rfl ?_;refine bC @Mw ?_;refine cH (λm e H=>∃i:Nat,i<=l.length/\m=l.length - i/\ao ((l.take i).find? p=av)/\ao (Ext h H)/\e.get 0=.list k s (eY l)/\e.get 1=.func (.func g) [] aF/\e.get 7=.v (.int .i64 (l.length:Nat))/\e.get 8=.v (.int .i64 (i:Nat))/\e.defers=[]) ?_ l.length _ _ ?_;rotate_left 1
 ·refine⟨0,cD _,rfl,⟨rfl⟩,⟨.refl _⟩,?_,?_,?_,?_,?_⟩<;>exact gR
 rintro m e H ⟨i,hi,rfl,ka,kX,g0,g1,g7,g8,hd⟩;by_cases aC:i<l.length
 ·have bD:s=4:=kp.out.2 (by intro q;rw[q] at aC;simp at aC);subst bD;obtain⟨q,hq⟩:∃q,l[i]?=aa q:=⟨_,aU aC⟩;have ld:=DE (H:=H) (s:=4) hq;obtain⟨H',hc,hX⟩:=kp.out.1 q (dy hq) H kX.out;have kX2:=ao.mk (kX.out.trans hX);have fw:(i:Int)<(l.length:Int):=by omega
  have kq:=ao.mk hq;have kt:=ao.mk (fE hq);clear hX hq;cases eV:p q with
  |true=>rw[eV] at hc;have Yz:l.find? p=aa q:=(by have e:l=l.take i++q::l.drop (i+1):=(by rw[<-List.getElem_of_getElem? kq.out|>.2];simp);rw[e,NW,ka.out,List.find?_cons_of_pos eV];rfl);have kf:=ao.mk Yz;clear Yz eV;refine cX @Mw @bp @lO.{0} ?_;exact⟨_,_,rfl,kX2.out,.inr ⟨i,q,rfl,kq.out,kf.out⟩⟩
  |false=>rw[eV] at hc;have kt2:ao ((l.take (i+1)).find? p=av):=⟨by rw[kt.out,NW,ka.out];simp[eV]⟩;clear eV;refine cX @Mw @bp @lO.{0} ?_;exact⟨l.length - (i+1),by omega,i+1,by omega,rfl,kt2,by first|exact kX2|trivial,by simp⟩
 ·have:i=l.length:=by omega
  subst this;have:=ka.out;rw[fN] at this;have kan:=ao.mk this;clear this;refine bC @Mw ?_;exact⟨_,_,rfl,kX.out,.inl ⟨kan.out,rfl⟩⟩
def K3{a b}(ha:elem a=ah)(hb:elem b=ah):jL ((a:Nat):Int) ((b:Nat):Int)=((a * b%P:Nat):Int):=by rw[zx (rq ha) (rq hb),dW,dW]
def BN{α:Type}{f:α->Nat}:∀{l:List α} (_:∀p∈l,elem (f p)=ah) {k:Nat} (_:elem k=ah),elem (l.foldl (λx p=>x * f p%P) k)=ah
 | [],_,_,hk=>hk
 |a::l,h,k,hk=>BN (l:=l) (λp hp=>h p (fM _ hp)) (HE hk (h a gq))
def apL(g:bq)(first aF:List AV)(f:Pr->Nat)(h:ar)(x:AV)(l:List Pr)(hx:PL x l)(hl:l.length<=1000000)(he:∀q∈l,elem (f q)=ah)
 (hp:∀q∈l,∀H,Ext h H->∃H',W5.call g (first++[.agg (cq q)]++aF) H=aa (.ret (im (f q:Nat)),H')/\Ext H H'):
 ∃r h',W5.call 113 [x,.func (.func g) first aF] h=aa (r,h')/\Ext h h'/\r=.ret (im ((l.foldl (λx q=>x * f q%P) 1:Nat):Int)):=by
 obtain⟨k,s,rfl,hs⟩:=hx;have kp:=ao.mk (az hp (az hs he));clear hp hs he;have u29:=wg;have z85:=sT;have zc:=D5;have cY:=vK l;unfold im;refine di rfl Tryz.func113 rfl ?_;refine bC @SI ?_;refine cH (λm e H=>∃i:Nat,i<=l.length/\m=l.length - i/\ao (Ext h H)/\e.get 1=.func (.func g) first aF/\e.get 5=.v (.int .i64 (((l.take i).foldl (λx q=>x * f q%P) 1:Nat):Int))/\e.get 8=.list k s (eY l)/\e.get 9=.v (.int .i64 (l.length:Nat))/\e.get 10=.v (.int .i64 (i:Nat))/\e.defers=[]) ?_ l.length _ _ ?_;rotate_left 1
 ·refine⟨0,cD _,rfl,⟨.refl _⟩,?_,?_,?_,?_,?_,?_⟩<;>exact gR
 rintro m e H ⟨i,hi,rfl,kX,g1,g5,g8,g9,g10,hd⟩;by_cases aC:i<l.length
 ·have bD:s=4:=kp.out.2.1 (by intro q;rw[q] at aC;simp at aC);subst bD;obtain⟨q,hq⟩:∃q,l[i]?=aa q:=⟨_,aU aC⟩;have hm:=dy hq;have ld:=DE (H:=H) (s:=4) hq;have st:=BU (H:=H) q;have l2:=DD (bg H (cq q));obtain⟨H',hc,hX⟩:=kp.out.1 q hm (H.push (cq q)) (kX.out.trans (.push _ _));have kX2:=ao.mk ((kX.out.trans (.push H (cq q))).trans hX);have fw:(i:Int)<(l.length:Int):=by omega
  have eacc:elem ((l.take i).foldl (λx q=>x * f q%P) 1)=ah:=BN (λp hp=>kp.out.2.2 p (pY hp)) A4;have c2:=E7 (((l.take i).foldl (λx q=>x * f q%P) 1:Nat):Int) ((f q:Nat):Int);have e2:mM (((l.take i).foldl (λx q=>x * f q%P) 1:Nat):Int) ((f q:Nat):Int)=0:=by unfold mM;rw[aH ⟨rq eacc,rq (kp.out.2.2 q hm)⟩]
  have e3:(l.take i).foldl (λx q=>x * f q%P) 1 * f q%P=(l.take (i+1)).foldl (λx q=>x * f q%P) 1:=by rw[fE hq,oI];rfl
  rw[K3 eacc (kp.out.2.2 q hm),e2,e3] at c2;clear hX hq e2 e3 eacc hm;generalize (l.take i).foldl (λx q=>x * f q%P) 1=acc at *
  generalize HM:(l.take (i+1)).foldl (λx q=>x * f q%P) 1=U5 at *
  have kA:=ao.mk HM;clear HM;generalize f q=fq at *
  unfold im at *
  refine cX @SI @bp @lO.{0} ?_;exact⟨l.length - (i+1),by omega,i+1,by omega,rfl,by first|exact kX2|trivial,by simp[kA.out]⟩
 ·have:i=l.length:=by omega
  subst this;rw[fN] at g5;refine bC @SI ?_;exact⟨_,_,rfl,kX.out,rfl⟩
def apM(g:bq)(first aF:List AV)(f:Int->Nat)(h:ar)(x:AV)(l:List Int)(hx:IL x l)(hl:l.length<=1000000)(he:∀q∈l,elem (f q)=ah)
 (hp:∀q∈l,∀H,Ext h H->∃H',W5.call g (first++[im q]++aF) H=aa (.ret (im (f q:Nat)),H')/\Ext H H'):
 ∃r h',W5.call 71 [x,.func (.func g) first aF] h=aa (r,h')/\Ext h h'/\r=.ret (im ((l.foldl (λx q=>x * f q%P) 1:Nat):Int)):=by
 obtain⟨k,s,rfl,hs⟩:=hx;have kp:=ao.mk (az hp (az hs he));clear hp hs he;have u23:=dY;have z3:=fR;have cY:=dE l;unfold im;refine di rfl Tryz.func71 rfl ?_;refine bC @S7 ?_;refine cH (λm e H=>∃i:Nat,i<=l.length/\m=l.length - i/\ao (Ext h H)/\e.get 1=.func (.func g) first aF/\e.get 5=.v (.int .i64 (((l.take i).foldl (λx q=>x * f q%P) 1:Nat):Int))/\e.get 8=.list k s (ints l)/\e.get 9=.v (.int .i64 (l.length:Nat))/\e.get 10=.v (.int .i64 (i:Nat))/\e.defers=[]) ?_ l.length _ _ ?_;rotate_left 1
 ·refine⟨0,cD _,rfl,⟨.refl _⟩,?_,?_,?_,?_,?_,?_⟩<;>exact gR
 rintro m e H ⟨i,hi,rfl,kX,g1,g5,g8,g9,g10,hd⟩;by_cases aC:i<l.length
 ·have bD:s=1:=kp.out.2.1 (by intro q;rw[q] at aC;simp at aC);subst bD;have hq:l[i]?=aa (al l i):=by rw[aU aC,fB aC]
  have hm:=dy hq;have ld:=ev (H:=H) (s:=1) aC;generalize al l i=q at *
  obtain⟨H',hc,hX⟩:=kp.out.1 q hm H kX.out;unfold im at hc;have kX2:=ao.mk (kX.out.trans hX);have fw:(i:Int)<(l.length:Int):=by omega
  have eacc:elem ((l.take i).foldl (λx q=>x * f q%P) 1)=ah:=BN (λp hp=>kp.out.2.2 p (pY hp)) A4;have c2:=E7 (((l.take i).foldl (λx q=>x * f q%P) 1:Nat):Int) ((f q:Nat):Int);have e2:mM (((l.take i).foldl (λx q=>x * f q%P) 1:Nat):Int) ((f q:Nat):Int)=0:=by unfold mM;rw[aH ⟨rq eacc,rq (kp.out.2.2 q hm)⟩]
  have e3:(l.take i).foldl (λx q=>x * f q%P) 1 * f q%P=(l.take (i+1)).foldl (λx q=>x * f q%P) 1:=by rw[fE hq,oI];rfl
  rw[K3 eacc (kp.out.2.2 q hm),e2,e3] at c2;clear hX hq e2 e3 eacc hm;generalize (l.take i).foldl (λx q=>x * f q%P) 1=acc at *
  generalize HM:(l.take (i+1)).foldl (λx q=>x * f q%P) 1=U5 at *
  have kA:=ao.mk HM;clear HM;generalize f q=fq at *
  unfold im at *
  refine cX @S7 @bp @lO.{0} ?_;exact⟨l.length - (i+1),by omega,i+1,by omega,rfl,by first|exact kX2|trivial,by simp[kA.out]⟩
 ·have:i=l.length:=by omega
  subst this;rw[fN] at g5;refine bC @S7 ?_;exact⟨_,_,rfl,kX.out,rfl⟩
def BP:Tryz.f111.results.toList=[.tmp 2]:=aw
def asH:Tryz.f161.results.toList=[.tmp 2]:=aw
def abV:Tryz.f49.results.toList=[.tmp 4]:=aw
def MO:Tryz.f70.results.toList=[.tmp 4]:=aw
def wB{b}:gH aq 27 (.ptr (.box b) 0) 0=aa (.ptr (.box b) 0):=aw
def gv{b}:gH aq 27 (.ptr (.box b) 0) 1=aa (.ptr (.box b) 1):=aw
def il{b}:gH aq 27 (.ptr (.box b) 0) 2=aa (.ptr (.box b) 3):=aw
def A8{b}:gH aq 25 (.ptr (.box b) 1) 0=aa (.ptr (.box b) 1):=aw
def ajD{b}:gH aq 25 (.ptr (.box b) 1) 1=aa (.ptr (.box b) 2):=aw
def r9:(∀b,gH aq 98 (.ptr (.box b) 0) 0=aa (.ptr (.box b) 0))/\(∀b,gH aq 98 (.ptr (.box b) 0) 1=aa (.ptr (.box b) 4))/\(∀b,gH aq 98 (.ptr (.box b) 0) 2=aa (.ptr (.box b) 5))/\(∀b,gH aq 98 (.ptr (.box b) 0) 3=aa (.ptr (.box b) 6))/\
 (∀b,gH aq 98 (.ptr (.box b) 0) 4=aa (.ptr (.box b) 7))/\(∀b,gH aq 98 (.ptr (.box b) 0) 5=aa (.ptr (.box b) 11))/\∀b,gH aq 98 (.ptr (.box b) 0) 6=aa (.ptr (.box b) 12):=
 ⟨λ_=>aw,λ_=>aw,λ_=>aw,λ_=>aw,λ_=>aw,λ_=>aw,λ_=>aw⟩
def WM{b}:gH aq 96 (.ptr (.box b) 7) 3=aa (.ptr (.box b) 10):=aw
def jg:(∀b,gH aq 85 (.ptr (.box b) 0) 0=aa (.ptr (.box b) 0))/\(∀b,gH aq 85 (.ptr (.box b) 0) 1=aa (.ptr (.box b) 1))/\(∀b,gH aq 85 (.ptr (.box b) 0) 2=aa (.ptr (.box b) 2))/\∀b,gH aq 85 (.ptr (.box b) 0) 3=aa (.ptr (.box b) 3):=
 ⟨λ_=>aw,λ_=>aw,λ_=>aw,λ_=>aw⟩
def cQ{H}{t}{b j}{cs}{x}(ha:gY aq t=aa aB)(hb:H.boxes[b]?=aa cs)(hj:cs[j]?=aa x):aI aq Gt H t (.ptr (.box b) j)=aa x:=by rw[mT ha hb,List.head?_drop,hj]
def Kp:gY aq 28=aa aB:=aw
def zn:gY aq 29=aa aB:=aw
def xM:gY aq 90=aa aB:=aw
def aN(ep:Int)(X Y C:AV):List AV:=[.v (.int .i64 ep),X,Y,C]
def iJ(ep:Int)(X Y C T L Wt All:AV)(pt ch:Int):List AV:=[.v (.int .i64 ep),X,Y,C,T,L,Wt,.v (.int .i64 3),.v (.int .i64 0),sv [],All,.v (.int .i64 pt),.v (.int .i64 ch)]
def mc(ae:List (List Int))(ep:Int)(aj:List Int):Bool:=decide (0<=ep)&&decide (ep<=64)&&decide (aj.length=bP ae)&&aj.all bN
def awl(n)(h):W5.call 161 [im n] h=aa (.ret (.v (.bool (!bN n))),h):=by
 have c:=Np n;unfold im at *
 refine cN rfl Tryz.func161 rfl ?_;exact lV @asH
def uL{ep}{X Y C}{ae}{ag aj}(hx:RL X ae)(hy:IL Y ag)(hc:IL C aj):(AV.agg (aN ep X Y C)).cd=aa (aN ep X Y C):=by obtain⟨k,s,xs,rfl,-⟩:=hx.form;obtain⟨ky,sy,rfl,-⟩:=hy;obtain⟨kc,sc,rfl,-⟩:=hc;rfl
def aqY(h:ar)(ep:Int)(X Y C:AV)(ae:List (List Int))(ag aj:List Int)(hx:RL X ae)(hy:IL Y ag)(hc:IL C aj)(hl:aj.length<=1000000):
 ∃r h',W5.call 111 [.agg (aN ep X Y C)] h=aa (r,h')/\h'=h.push (aN ep X Y C)/\r=.ret (.v (.bool (mc ae ep aj))):=by
 have bx:=uL (ep:=ep) hx hy hc;have b0:=bg h (aN ep X Y C);have l0:aI aq Gt (h.push (aN ep X Y C)) 3 (.ptr (.box h.boxes.length) 0)=aa (.v (.int .i64 ep)):=cQ fh b0 rfl;have l1:aI aq Gt (h.push (aN ep X Y C)) 22 (.ptr (.box h.boxes.length) 1)=aa X:=cQ Oz b0 rfl;have l3:aI aq Gt (h.push (aN ep X Y C)) 23 (.ptr (.box h.boxes.length) 3)=aa C:=cQ mj b0 rfl;have ln:=hx.dQ;have lc:=hc.dQ;have cc:=KF (pr:=F8) rfl rfl 161 [] (λn=> !bN n) (h.push (aN ep X Y C)) C aj hc hl (λn _=>awl n _);rw[Vk] at cc;have kv:ao (mc ae ep aj=(decide (0<=ep)&&decide (ep<=64)&&decide (aj.length=bP ae)&&aj.all bN)):=⟨rfl⟩;generalize mc ae ep aj=res at *
 obtain⟨k,s,xs,rfl,hs,dR,eG⟩:=hx;have kk:=ao.mk (az hs eG);have u23:=dY;have u22:=jf;have z23:=iA;have cY:(xs.map λa=>[a]).length=ae.length:=by rw[bF];exact dR
 clear hs eG hc hy b0;have kcols:ao (ae.length=0->bP ae=1):=⟨λq=>by unfold bP;rw[aH q]⟩;have kcols2:ao (∀r0,ae[0]?=aa r0->bP ae=r0.length):=⟨λr0 q=>by unfold bP;rw[aJ (by have:=(aW.1 q).1;omega),eE,q];rfl⟩;refine di rfl Tryz.func111 rfl ?_;have fin:∀n:Nat,bP ae=n->ao (res=(decide (0<=ep)&&decide (ep<=64)&&decide (aj.length=n)&&aj.all bN)):=λn q=>⟨by rw[kv.out,q]⟩;have fI:=ao.mk fin;clear fin;rcases Hc ae.length with h0|h0
 ·have hq:¬((0:Int)<(ae.length:Int)):=by omega
  have kf:=fI.out _ (kcols.out h0);clear h0;clear kcols kcols2 fI kv;by_cases h1:0<=ep;rotate_left 1
  ·have d1:decide (0<=ep)=aB:=cS h1;have kr:ao (res=aB):=⟨by rw[kf.out,d1];rfl⟩;clear h1 cc;refine bK @BP @bu @wB (az @gv (az @il (az @A8 @bp))) ?_;exact⟨_,_,rfl,rfl,by rw[kr.out]⟩
  have d1:decide (0<=ep)=ah:=b8 h1;by_cases h2:ep<=64;rotate_left 1
  ·have d2:decide (ep<=64)=aB:=cS h2;have kr:ao (res=aB):=⟨by rw[kf.out,d2];simp⟩;clear h1 h2 cc;refine bK @BP @bu @wB (az @gv (az @il (az @A8 @bp))) ?_;exact⟨_,_,rfl,rfl,by rw[kr.out]⟩
  have d2:decide (ep<=64)=ah:=b8 h2;by_cases h3:aj.length=1;rotate_left 1
  ·have d3:decide ((aj.length:Int)=1)=aB:=cS ai;have kr:ao (res=aB):=⟨by rw[kf.out,cS h3];simp⟩;clear h1 h2 h3 cc;refine bK @BP @bu @wB (az @gv (az @il (az @A8 @bp))) ?_;exact⟨_,_,rfl,rfl,by rw[kr.out]⟩
  have d3:decide ((aj.length:Int)=1)=ah:=b8 ai;have kr:ao (res=aj.all bN):=⟨by rw[kf.out,d1,d2,b8 h3];rfl⟩;have It:(!!aj.all bN)=aj.all bN:=by simp
  clear h1 h2 h3;refine bK @BP @bu @wB (az @gv (az @il (az @A8 @bp))) ?_;exact⟨_,_,rfl,rfl,by rw[kr.out]⟩
 ·have hq:((0:Int)<(ae.length:Int)):=by omega
  have bD:s=1:=kk.out.1 (by intro q;rw[q] at h0;simp at h0);subst bD;obtain⟨a0,gM⟩:∃a,xs[0]?=aa a:=⟨_,aU ai⟩;obtain⟨r0,gN⟩:∃r,ae[0]?=aa r:=⟨_,aU ai⟩;have ld0:=mf (H:=h.push (aN ep (.list k 1 (xs.map λa=>[a])) Y C)) (s:=1) gM;obtain⟨ka0,sa0,rfl,qQ⟩:=kk.out.2 0 a0 r0 gM gN;have kf:=fI.out _ (kcols2.out r0 gN);have cU:=dE r0;have z0:(0:Int).toNat=0:=rfl;generalize r0.length=N at *
  clear gM gN qQ h0;clear kcols kcols2 fI kv;by_cases h1:0<=ep;rotate_left 1
  ·have d1:decide (0<=ep)=aB:=cS h1;have kr:ao (res=aB):=⟨by rw[kf.out,d1];rfl⟩;clear h1 cc;refine bK @BP @bu @wB (az @gv (az @il (az @A8 @bp))) ?_;exact⟨_,_,rfl,rfl,by rw[kr.out]⟩
  have d1:decide (0<=ep)=ah:=b8 h1;by_cases h2:ep<=64;rotate_left 1
  ·have d2:decide (ep<=64)=aB:=cS h2;have kr:ao (res=aB):=⟨by rw[kf.out,d2];simp⟩;clear h1 h2 cc;refine bK @BP @bu @wB (az @gv (az @il (az @A8 @bp))) ?_;exact⟨_,_,rfl,rfl,by rw[kr.out]⟩
  have d2:decide (ep<=64)=ah:=b8 h2;by_cases h3:aj.length=N;rotate_left 1
  ·have d3:decide ((aj.length:Int)=(N:Int))=aB:=cS ai;have kr:ao (res=aB):=⟨by rw[kf.out,cS h3];simp⟩;clear h1 h2 h3 cc;refine bK @BP @bu @wB (az @gv (az @il (az @A8 @bp))) ?_;exact⟨_,_,rfl,rfl,by rw[kr.out]⟩
  have d3:decide ((aj.length:Int)=(N:Int))=ah:=b8 ai;have kr:ao (res=aj.all bN):=⟨by rw[kf.out,d1,d2,b8 h3];rfl⟩;have It:(!!aj.all bN)=aj.all bN:=by simp
  clear h1 h2 h3;refine bK @BP @bu @wB (az @gv (az @il (az @A8 @bp))) ?_;exact⟨_,_,rfl,rfl,by rw[kr.out]⟩
structure wh(H:ar)(c:Nat)(ep:Int)(X Y C T L Wt:AV)(pt ch:Int)(aj:List Int)(text:List UInt8)(l:List Pr):Prop where
 eT:∃(b:Nat) (ae:List (List AV)),H.boxes[c]?=aa (iJ ep X Y C T L Wt (.arr b 0 ae.length ae.length) pt ch)/\H.boxes[b]?=aa ae.flatten/\oL (l.map Pr.val) ae
 O6:IL C aj
 pos:0<aj.length
 c0:0<=al aj 0/\al aj 0<=4611686018427387903
 D2:∃kt st,T=.list kt st (bf text)/\(text≠[]->st=1)
 tl:text.length<=65536
 ll:l.length<=64
def wh.mono{H H'}{c}{ep}{X Y C T L Wt}{pt ch}{aj}{text}{l}(w:wh H c ep X Y C T L Wt pt ch aj text l)(x:Ext H H'):wh H' c ep X Y C T L Wt pt ch aj text l:=by obtain⟨b,ae,h1,h2,h3⟩:=w.eT;exact⟨⟨b,ae,x.box _ _ h1,x.box _ _ h2,h3⟩,w.O6,w.pos,w.c0,w.D2,w.tl,w.ll⟩
def ac0(l:List Pr):iE (l.map Pr.val)<=1:=by
 induction l with
 |nil=>simp[iE]|cons p l ih=>
  rw[eL,iE];have:gQ p.val=1:=by simp[Pr.val,gQ,iE]
  omega
def awj(p:Pr):(dU p.val).length<=100:=by
 have h0:=oX 9 (0+1+1+1+1);have h1:=oX 9 (mr p.aA);have h2:=oX 9 (mr p.no);have h3:=oX 9 (mr p.d);have h4:=oX 9 (mr p.e);simp only[Pr.val,dU,jn,jd,dM,lP] at *
 omega
def ac2:∀l:List Pr,(jn (l.map Pr.val)).length<=l.length * 100
 | []=>by simp[jn]
 |p::l=>by have h1:=awj p;have h2:=ac2 l;rw[eL,jn,dM,jd,gZ];omega
def VA(c0)(text)(l)(k):(dU (.list [.int c0,.text text,uP l,.int k])).length<=100+text.length+l.length * 100:=by
 have h0:=oX 9 (0+1+1+1+1);have h1:=oX 9 (mr c0);have h2:=oX 9 text.length;have h3:=oX 9 (mr k);have h4:=oX 9 (l.map Pr.val).length;have h5:=ac2 l;simp only[uP,dU,jn,jd,dM,lP] at *
 omega
def OU(t u v w)(x y z q):gG aq 180 4 [(0,.iface t x),(1,.iface u y),(2,.iface v z),(3,.iface w q)]=aa (.list .tight 1 [[.iface t x],[.iface u y],[.iface v z],[.iface w q]]):=aw
def OQ(H:ar)(c:Nat)(ep:Int)(X Y C T L Wt:AV)(pt ch:Int)(aj:List Int)(text:List UInt8)(l:List Pr)(w:wh H c ep X Y C T L Wt pt ch aj text l)(q:Pr)(hk:0<=q.aA/\q.aA<=4611686018427387903):
 ∃r H',W5.call 49 [.ptr (.box c) 0,.agg (cq q)] H=aa (r,H')/\H'=H.push (cq q)/\r=.ret (im ((fC (al aj 0) text l q.aA:Nat):Int)):=by
 have w2:=w.mono (.push H (cq q));obtain⟨b,ae,h1,h2,h3⟩:=w2.eT;obtain⟨kc,sc,rfl,vC⟩:=w.O6;obtain⟨kt,st,rfl,bT⟩:=w.D2;have jV:=w.pos;have Q7:sc=1:=vC (by intro e;rw[e] at jV;simp at jV);subst Q7;have dG:ae.length<=64:=by have:=h3.1;rw[bF] at this;have:=w.ll;omega
 have bl:=VA (al aj 0) text l q.aA;have hd:=ac0 l;have hh:=Ye (H.push (cq q)) DV .tight 1 [.iface 3 (.v (.int .i64 (al aj 0))),.iface 28 (.list kt st (bf text)),.iface 96 (.agg (im 3::im 0::sv []::[.arr b 0 ae.length ae.length])),.iface 3 (.v (.int .i64 q.aA))] [.int (al aj 0),.text text,uP l,.int q.aA]
  (.cons (.int _ w.c0) (.cons (.text kt st text bT (by have:=w.tl;omega)) (.cons (.list h2 h3 ai) (.cons (.int _ hk) .nil)))) (λ_=>rfl) bJ aZ (by simp[uP,gQ,iE];omega) (by have:=w.tl;have:=w.ll;omega)
 have ye:uw DV (.list [.int (al aj 0),.text text,uP l,.int q.aA])=fC (al aj 0) text l q.aA:=rfl;rw[ye] at hh;rw[show DV=[98,105,110,100] from rfl] at hh;generalize fC (al aj 0) text l q.aA=bn at *
 have b0:=bg H (cq q);have l0:aI aq Gt (H.push (cq q)) 3 (.ptr (.box H.boxes.length) 0)=aa (.v (.int .i64 q.aA)):=cQ fh b0 rfl;have l1:aI aq Gt (H.push (cq q)) 23 (.ptr (.box c) 3)=aa (.list kc 1 (ints aj)):=cQ mj h1 rfl;have l2:aI aq Gt (H.push (cq q)) 28 (.ptr (.box c) 4)=aa (.list kt st (bf text)):=cQ Kp h1 rfl;have l3:aI aq Gt (H.push (cq q)) 96 (.ptr (.box c) 7)=aa (.agg [im 3,im 0,sv [],.arr b 0 ae.length ae.length]):=by rw[iP OB qW h1 (jS rfl)];rfl
 have l4:=ev (H:=H.push (cq q)) (l:=aj) (i:=0) (s:=1) jV;have bc:(AV.agg (cq q)).cd=aa (cq q):=rfl;have cY:=dE aj;have u23:=dY;have z3:=fR;have Lu:(0:Int)<(aj.length:Int):=by omega
 have z0:(0:Int).toNat=0:=rfl;simp only[eL,wc] at hh;clear w w2 h1 h2 h3 vC bT ye bl hd b0 jV;generalize al aj 0=c0 at *
 unfold im at *
 refine di rfl Tryz.func49 rfl ?_;refine bQ @abV @bu ?_;refine eJ mA aw ?_;refine bK @abV @r9 @il (az @jg (az @bp (az @IM (az @Rl (az @amh @OU))))) ?_;exact⟨_,_,rfl,rfl,rfl⟩
def agv(c0)(text)(l)(k):okF ((fC c0 text l k:Nat):Int):=Yg _ _
def aaw(H:ar)(c:Nat)(ep:Int)(X Y C T L Wt:AV)(pt ch:Int)(aj:List Int)(text:List UInt8)(l:List Pr)(w:wh H c ep X Y C T L Wt pt ch aj text l)(q:Pr)(hk:0<=q.aA/\q.aA<=4611686018427387903)(hd:bN q.d=ah)(he:bN q.e=ah):
 ∃r H',W5.call 70 [.ptr (.box c) 0,.agg (cq q)] H=aa (r,H')/\Ext H H'/\r=.ret (im ((iZ (al aj 0) text l q:Nat):Int)):=by
 obtain⟨_,H2,c1,rfl,rfl⟩:=OQ (H.push (cq q)) c ep X Y C T L Wt pt ch aj text l (w.mono (.push _ _)) q hk;have hb:=agv (al aj 0) text l q.aA;have c2:=I8 q.e ((fC (al aj 0) text l q.aA:Nat):Int);have c3:=E7 q.d (fH q.e ((fC (al aj 0) text l q.aA:Nat):Int));have hN:jL q.d (fH q.e ((fC (al aj 0) text l q.aA:Nat):Int))=((iZ (al aj 0) text l q:Nat):Int):=by rw[zx hd (wy he _),qK he];unfold iZ;rw[dW];unfold fC;rw[I7]
 rw[hN] at c3;generalize iZ (al aj 0) text l q=nn at *
 generalize ((fC (al aj 0) text l q.aA:Nat):Int)=bn at *
 generalize fH q.e bn=pw at *
 have b0:=bg H (cq q);have b1:((H.push (cq q)).push (cq q)).boxes[H.boxes.length]?=aa (cq q):=bh b0;have l0:aI aq Gt (H.push (cq q)) 3 (.ptr (.box H.boxes.length) 2)=aa (.v (.int .i64 q.d)):=cQ fh b0 rfl;have l1:aI aq Gt (H.push (cq q)) 3 (.ptr (.box H.boxes.length) 3)=aa (.v (.int .i64 q.e)):=cQ fh b0 rfl;have l2:=DD b0;have l0b:aI aq Gt ((H.push (cq q)).push (cq q)) 3 (.ptr (.box H.boxes.length) 2)=aa (.v (.int .i64 q.d)):=cQ fh b1 rfl;have l1b:aI aq Gt ((H.push (cq q)).push (cq q)) 3 (.ptr (.box H.boxes.length) 3)=aa (.v (.int .i64 q.e)):=cQ fh b1 rfl;have bc:(AV.agg (cq q)).cd=aa (cq q):=rfl;clear w hb hN b0 b1;unfold im at *
 refine di rfl Tryz.func70 rfl ?_;refine bQ @MO @bu ?_;refine nW [(1,6),(3,6)] mA aw (λp hp=>?_) ?_
 ·simp only[iU,xC,or_false] at hp;rcases hp with rfl|rfl
  ·refine Al (x:=.ptr (.box H.boxes.length) 2) (v:=.v (.int .i64 q.d)) aw rfl rfl rfl aw (by simp[fA,mU]) ?_ ?_<;>(simp only[iV,gF];exact si @MO @jg @and_self)
  ·refine Al (x:=.ptr (.box H.boxes.length) 3) (v:=.v (.int .i64 q.e)) aw rfl rfl rfl aw (by simp[fA,mU]) ?_ ?_<;>(simp only[iV,gF];exact si @MO @jg @and_self)
 refine bQ @MO @jg ?_;exact⟨_,_,rfl,(Ext.push _ _).trans (Ext.push _ _),rfl⟩
end Go.Proofs.YtnfciiiohoafaaaGreatDoor
end
section
set_option linter.constructorNameAsVariable false
namespace Go.Proofs.YtnfciiiohoafaaaGreatDoor
open Go.AE Go.NT
def oZ:Tryz.f48.results.toList=[.tmp 6,.tmp 7]:=aw
def AJ(H:ar)(c base:Nat)(cur:AV)(vs:List Vl):Prop:=(vs=[]/\cur=.list .nil 0 [])∨(vs≠[]/\∃(b:Nat) (ae:List (List AV)),cur=.arr b 0 ae.length ae.length/\H.boxes[b]?=aa ae.flatten/\oL vs ae/\b≠c/\base<=b)
def AJ.dQ{H}{c base}{cur}{vs}(q:AJ H c base cur vs):dQ aq 94 cur=aa (.v (.int .i64 (vs.length:Nat))):=by
 have u94:=qD;unfold Go.AE.dQ;rw[u94];rcases q with⟨rfl,rfl⟩|⟨-,b,ae,rfl,-,h3,-⟩
 ·rfl
 ·simp only[h3.1]
def AJ.eH{H}{c base}{cur}{vs}(q:AJ H c base cur vs):cur.eH=ah:=by rcases q with⟨rfl,rfl⟩|⟨-,b,ae,rfl,-⟩<;>rfl
def tX:List AV:=aM 0 0 [] .nil 0 []
def oL.four{vs}{ae}(h:oL vs ae):∀r∈ae,r.length=4:=λr hr=>by obtain⟨i,hi⟩:=vd hr;have cY:=(aW.1 hi).1;exact(h.2 i _ r (aU (by rw[<-h.1];exact cY)) hi).len
def oL.snoc{vs}{ae}(h:oL vs ae){v}{r}(hv:dm v r):oL (vs++[v]) (ae++[r]):=by
 refine⟨by simp[h.1],λi w x hw hx=>?_⟩;rcases ez i ae.length with aC|eF
 ·rw[sY aC] at hx;rw[sY (by rw[<-h.1];exact aC)] at hw;exact h.2 i w x hw hx
 ·have:=(aW.1 hx).1;rw[dM] at this;have he:i=ae.length:=by simp at this;omega
  subst he;rw[GS] at hx;rw[h.1,GS] at hw;injection hx with hx;injection hw with hw;subst hx;subst hw;exact hv
def AJ.more{h0 H}{c base}{cur}{vs}(q:AJ H c base cur vs)(hx:Ext h0 H)(zE:h0.boxes.length<=base)(hc:c<H.boxes.length)(jE:base<=H.boxes.length)(hl:vs.length<1000000){v}{r}(hv:dm v r):
 ∃H2,sU aq H #[94,94] cur (.list .tight 4 [tX])=aa (.arr H.boxes.length 0 (vs.length+1) (vs.length+1),H2)/\H2.boxes.length=H.boxes.length+1/\H2.tn=H.tn/\H2.dead=H.dead/\Ext h0 H2/\
  dS aq 94 (.arr H.boxes.length 0 (vs.length+1) (vs.length+1)) (.v (.int .i64 (vs.length:Nat)))=aa (.ptr (.box H.boxes.length) (vs.length * 4))/\
  (∀(a:Nat) (cs:List AV),H.boxes[a]?=aa cs->(a<base∨a=c)->H2.boxes[a]?=aa cs)/\
  ∃cs,cE aq H2 96 (.ptr (.box H.boxes.length) (vs.length * 4)) (.agg r)=aa (H2.put H.boxes.length cs)/\
  ∀H3,H3.boxes[H.boxes.length]?=aa cs->AJ H3 c base (.arr H.boxes.length 0 (vs.length+1) (vs.length+1)) (vs++[v]):=by
 obtain⟨i,q1,q2,q3,q4⟩:=ZH;have vt:=ri (ai:vs.length+1<=1000000) q3;have u94:=qD;have tL:=hv.len;have YG:dS aq 94 (.arr H.boxes.length 0 (vs.length+1) (vs.length+1)) (.v (.int .i64 (vs.length:Nat)))=aa (.ptr (.box H.boxes.length) (vs.length * 4)):=by unfold dS;simp only[u94,qW];rw[aH ⟨ai,by omega⟩];simp
 rcases q with⟨rfl,rfl⟩|⟨bG,b,ae,rfl,h1,h2,h3,h4⟩
 ·have:=Nk (h:=H) (k:=.nil) (sz:=0) (es:=[]) (new:=[tX]) (x:=.list .tight 4 [tX]) qD qD q1 ai (by rw[q2];exact q4) bJ (by simp;omega) bJ (.inr rfl) (.inl rfl) (by rw[q2];rfl);refine⟨_,this,cR _ _,rfl,rfl,hx.trans (.push _ _),YG,λa cs ha _=>bh ha,r,?_,λH3 h3=>.inr ⟨bJ,H.boxes.length,[r],rfl,by rw[h3];simp,oL.snoc (vs:=[]) (ae:=[]) ⟨rfl,λi v r q=>by simp at q⟩ hv,by omega,jE⟩⟩;have hg:(H.push ([]++[tX]).flatten).boxes[H.boxes.length]?=aa tX:=bg _ _;exact(fK (off:=0) (cs:=tX) (xs:=r) hv.cells qW hg tL (aL 4)).trans (by rw[xo (by rw[tL];rfl)])
 ·have hf:=oh h2.four;have iu:=h2.1;have jV:0<ae.length:=by rw[iu];exact List.length_pos_iff.2 bG
  rw[<-iu] at vt;have:=TL (h:=H) (b:=b) (len:=ae.length) (cs:=ae.flatten) (new:=[tX]) (x:=.list .tight 4 [tX]) qD qD q1 ai (by rw[q2];exact q4) bJ (by simp;omega) (by simp;omega) h1 jV (by rw[q2,hf]) (by rw[q2];rfl);have aC:=(aW.1 h1).1;rw[show ae.length+[tX].length=vs.length+1 by simp[iu]] at this;refine⟨_,this,by rw[cR,mE],rfl,rfl,(hx.fZ ai _).trans (.push _ _),YG,λa cs ha Iy=>bh ((dh ?_).trans ha),(ae++[r]).flatten,?_,λH3 h5=>.inr ⟨bJ,H.boxes.length,ae++[r],by simp[iu],h5,h2.snoc hv,by omega,jE⟩⟩
  ·rcases Iy with z|z
   ·omega
   ·rintro rfl;exact h3 z
  ·have hg:((H.put b []).push (ae.flatten++[tX].flatten)).boxes[H.boxes.length]?=aa (ae.flatten++[tX].flatten):=nM (by rw[mE]);refine(fK (off:=vs.length * 4) (xs:=r) hv.cells qW hg tL ?_).trans ?_
   ·rw[dM,hf,iu];exact aL _
   ·have mb:fe (ae.flatten++[tX].flatten) (vs.length * 4) r=(ae++[r]).flatten:=(by unfold fe;rw[tL,<-iu,<-hf,Ki rfl,rh (by rw[dM];exact aL _),jC];simp);rw[mb]
def anx:∃h',W4.call 112 [.list .nil 0 []] ⟨[],[],0,[]⟩=aa (.ret (.agg (aM 3 0 [] .nil 0 [])),h'):=by obtain⟨r,h',c,-,t,sz,ae,rfl,-,-,hn⟩:=RH ⟨[],[],0,[]⟩ vJ .nil 0 [] [] .nil (λq=>absurd rfl q) bJ (λa ha=>by cases ha);obtain⟨rfl,rfl,rfl⟩:=hn rfl;rw[wc] at c;exact⟨h',c⟩
def ani:∀h,W5.call 112 [.list .nil 0 []] h=aa (.ret (.agg (aM 3 0 [] .nil 0 [])),h):=by obtain⟨h',c⟩:=anx;exact ig (L:=L5) (b7:=[.list .nil 0 []]) aZ (by rw[bZ,bZ,aD,bX,fj];intro n q;cases q) aZ c (by rfl) aZ
end Go.Proofs.YtnfciiiohoafaaaGreatDoor
end
section
namespace Go.AE
section
variable {P:Program} {G:Nat->Option (List AV)} {aQ:bq->Option (List AV->ar->Option (AV × ar))} {Q:Xt->Env->ar->Prop} {e:Env} {h:ar} {L:List bq} {R:Rec}
def aoL{ops:Array Oper}{i n bi bn x1 x2:Nat}{o1 o2:Oper}{t1 t2:TypeId}{a1 a2 v1 v2:Operand}(hn:ops.size - 1=n)(YS:ops[i]?=aa o1)(Y9:o1.op=.store t1 a1 v1)(ho2:ops[n]?=aa o2)(Za:o2.op=.store t2 a2 v2)
 (h1:da P G R ops (ops.toList.take i) e h (λq ei _=>q=.normal/\ei.eval a1=.ptr (.box bi) x1))
 (h2:da P G R ops (ops.toList.take n) e h (λq en _=>q=.normal/\en.eval a2=.ptr (.box bn) x2)) (bG:bi≠bn):tS P G R ops e h i=ah:=by
 subst hn;have hi:i<ops.size:=(Array.getElem?_eq_some_iff.1 YS).1;obtain⟨q1,ei,Qg,e1,rfl,e2⟩:=h1;obtain⟨q2,en,jF,f1,rfl,f2⟩:=h2;rw[<-tQ (Nat.le_of_lt hi)] at e1;rw[<-tQ ai] at f1;unfold tS;have p1:sJ ops i ei=aa bi:=by unfold sJ;rw[YS];simp only[Y9,e2]
 have p2:sJ ops (ops.size - 1) en=aa bn:=by unfold sJ;rw[ho2];simp only[Za,f2]
 simp only[e1,f1,p1,p2];cases hq:kK bi bn with|false=>rfl|true=>exact absurd (lD hq) bG
def atu{id:Nat}{ops:Array Oper}(i:Nat)(hL:qu aQ L)(hi:Nat.blt i ops.size=ah)(bB:F2 ops i=ah)(hd:ES (ia ops i (ops.size - 1)) (OZ P (ia ops i (ops.size - 1)) L) []=ah)
 (nk:tS P G (whole P G aQ) ops e h i=ah) (hr:da P G (whole P G aQ) ops ops.toList e h (zr Q)):bM (whole P G aQ) (.region id ops ah) e h Q:=by
 have hi:i<ops.size:=by simpa [Nat.blt_eq] using hi
 have gI:=hr;obtain⟨o,en,hn,h1,h2⟩:=gI;cases o with
 |normal=>
  have eW:dx P G (whole P G aQ) (ia ops i (ops.size - 1)) (bO (ia ops i (ops.size - 1)).size) e h=aa (.normal,en,hn):=by rw[tB,DM,tQ (aL _),<-Array.length_toList,fN];exact h1
  exact run_draw_stores (stores_of hi bB nk (Pl hd (λk hk=>VZ hL eW (List.mem_filter.1 hk).2) (λp hp=>nomatch hp))) hr
 |_=>exact h2.elim
def ase{Post:Bool->ar->Prop}{H:ar}{l:Nat}{rec:iW}{args:List AV}(hr:H.loops[l]?=aa rec)(hs:rec.params.size=args.length)(bT:rec.state=.ready)(hp:rec.pending=av)
 (ha:bM (whole P G aQ) rec.assign (nV l rec args) H (λo e1 h1=>o=.normal/\h1=H/\bM (whole P G aQ) rec.body e1 (H.busy l rec) (λo _ h2=>h2.loops[l]?=aa {rec with state:=.busy}/\
  ((o=.normal/\Post ah (h2.fc l rec))∨(o=.ret/\Post aB (h2.fc l {rec with state:=.done,pending:=aa .ret})))))):
 ∃b H',(whole P G aQ).round l args H=aa (.ret (.v (.bool b)),H')/\Post b H':=by
 obtain⟨o,e1,h1,q1,rfl,rfl,o2,e2,h2,q2,q3,q4⟩:=ha;have Bw:{rec with state:=LoopState.ready,pending:=av}=rec:=by cases rec;cases bT;cases hp;rfl
 rcases q4 with⟨rfl,q4⟩|⟨rfl,q4⟩
 ·refine⟨ah,_,Mr hr hs ⟨_,e1,h1,q1,rfl,rec,hr,bT,.normal,e2,h2,q2,{rec with state:=.busy},q3,rfl,rfl⟩,?_⟩;show Post ah (h2.fc l {rec with state:=LoopState.ready,pending:=av});rw[Bw];exact q4
 ·exact⟨aB,_,Mr hr hs ⟨_,e1,h1,q1,rfl,rec,hr,bT,.ret,e2,h2,q2,{rec with state:=.busy},q3,rfl,rfl⟩,q4⟩
end
end Go.AE
end
section
namespace Go.Proofs.YtnfciiiohoafaaaGreatDoor
open Go.AE Go.NT
def af4(ep)(k1 k2 k3 k4 k5)(s1 s2 s3 s4 s5)(e1 e2 e3 e4 e5):
 nH aq 98 [(0,.agg (aN ep (.list k1 s1 e1) (.list k2 s2 e2) (.list k3 s3 e3))),(1,.list k4 s4 e4),(2,.list k5 s5 e5),(4,.agg (aM 3 0 [] .nil 0 []))]=aa (.agg (iJ ep (.list k1 s1 e1) (.list k2 s2 e2) (.list k3 s3 e3) (.list k4 s4 e4) (.list k5 s5 e5) (.list .nil 0 []) (.list .nil 0 []) 0 0)):=aw
def BL(x:AV)(b:List UInt8):Prop:=∃k s,x=.list k s (bf b)/\(b≠[]->s=1)
def av7(b):(bf b).length=b.length:=bF _
def BL.dQ{x}{b}(h:BL x b):dQ aq 28 x=aa (.v (.int .i64 (b.length:Nat))):=by obtain⟨k,s,rfl,-⟩:=h;have u28:=jJ;unfold Go.AE.dQ;rw[u28];simp only[av7]
def PL.ix{x}{l}(h:PL x l){i}(hi:i<l.length):dS aq 29 x (.v (.int .i64 (i:Nat)))=aa (.elem 4 (eY l) i 0):=by obtain⟨k,s,rfl,hs⟩:=h;have bD:s=4:=hs (by intro q;rw[q] at hi;simp at hi);subst bD;have:=bp (k:=k) (kk:=.i64) (es:=eY l) (a:=((i:Nat):Int)) wg sT ai (by rw[vK];omega);rw[this,dW]
def IL.ix{x}{l}(h:IL x l){i}(hi:i<l.length):dS aq 23 x (.v (.int .i64 (i:Nat)))=aa (.elem 1 (ints l) i 0):=by obtain⟨k,s,rfl,hs⟩:=h;have bD:s=1:=hs (by intro q;rw[q] at hi;simp at hi);subst bD;have:=bp (k:=k) (kk:=.i64) (es:=ints l) (a:=((i:Nat):Int)) dY fR ai (by rw[dE];omega);rw[this,dW]
structure BI(h H:ar)(ep:Int)(X Y C T L:AV)(kb c:Nat)(cur:AV)(vs:List Vl)(t:Tok):Prop where
 ext:Ext h H
 ok:cK H=ah
 can:du h.tn H t
 key:H.boxes[kb]?=aa (aN ep X Y C)
 work:H.boxes[c]?=aa (iJ ep X Y C T L (.list .nil 0 []) cur 0 0)
 la:AJ H c (c+1) cur vs
 lo:h.boxes.length<=kb
 lt:kb<c
def BI.push{h H}{ep}{X Y C T L}{kb c}{cur}{vs}{t}(b:BI h H ep X Y C T L kb c cur vs t)(cs):BI h (H.push cs) ep X Y C T L kb c cur vs t:=by
 refine⟨b.ext.trans (.push _ _),b.ok,by rw[AZ];exact b.can,bh b.key,bh b.work,?_,b.lo,b.lt⟩;rcases b.la with q|⟨q,x,ae,q1,q2,q3⟩
 ·exact .inl q
 ·exact .inr ⟨q,x,ae,q1,bh q2,q3⟩
def BI.app{h H}{ep}{X Y C T L}{kb c}{cur}{vs}{t}(b:BI h H ep X Y C T L kb c cur vs t):BI h (H.app t) ep X Y C T L kb c cur vs (.free H.tn):=by
 have gr:=Grown.one b.can b.ok b.ext.tn;refine⟨gr.ext b.ext (aL _),gr.ok,gr.can,by rw[eC];exact b.key,by rw[eC];exact b.work,?_,b.lo,b.lt⟩;rcases b.la with q|⟨q,x,ae,q1,q2,q3⟩
 ·exact .inl q
 ·exact .inr ⟨q,x,ae,q1,by rw[eC];exact q2,q3⟩
def BI.O5{h H}{ep}{X Y C T L}{kb c}{cur}{vs}{t}(b:BI h H ep X Y C T L kb c cur vs t):c<H.boxes.length:=(aW.1 b.work).1
def avr{H}{c}{ep}{X Y C T L Wt cur x}{pt ch}(hb:H.boxes[c]?=aa (iJ ep X Y C T L Wt cur pt ch))(hx:x.cd=aa [x]):cE aq H 94 (.ptr (.box c) 10) x=aa (H.put c (iJ ep X Y C T L Wt x pt ch)):=
 fK (off:=10) (cs:=iJ ep X Y C T L Wt cur pt ch) (xs:=[x]) hx aw hb rfl (jS rfl)
def avq{H}{c}{ep}{X Y C T L Wt cur x}{pt ch}(hb:H.boxes[c]?=aa (iJ ep X Y C T L Wt cur pt ch))(hx:x.cd=aa [x]):cE aq H 23 (.ptr (.box c) 6) x=aa (H.put c (iJ ep X Y C T L x cur pt ch)):=
 fK (off:=6) (cs:=iJ ep X Y C T L Wt cur pt ch) (xs:=[x]) hx iA hb rfl (jS rfl)
def avt{H}{c}{ep}{X Y C T L Wt cur}{pt ch n}(hb:H.boxes[c]?=aa (iJ ep X Y C T L Wt cur pt ch)):cE aq H 3 (.ptr (.box c) 11) (.v (.int .i64 n))=aa (H.put c (iJ ep X Y C T L Wt cur n ch)):=
 fK (off:=11) (cs:=iJ ep X Y C T L Wt cur pt ch) (xs:=[.v (.int .i64 n)]) rfl fR hb rfl (jS rfl)
def avs{H}{c}{ep}{X Y C T L Wt cur}{pt ch n}(hb:H.boxes[c]?=aa (iJ ep X Y C T L Wt cur pt ch)):cE aq H 3 (.ptr (.box c) 12) (.v (.int .i64 n))=aa (H.put c (iJ ep X Y C T L Wt cur pt n)):=
 fK (off:=12) (cs:=iJ ep X Y C T L Wt cur pt ch) (xs:=[.v (.int .i64 n)]) rfl fR hb rfl (jS rfl)
def VG:gG aq 94 1 [(0,.agg [wX (Value.int .i64 0),wX (Value.int .i64 0),wX (Value.string (bs [])),wX (Value.slice av 0 0)])]=aa (.list .tight 4 [tX]):=aw
def BI.next{h H}{ep}{X Y C T L}{kb c}{cur}{vs}{t}(b:BI h H ep X Y C T L kb c cur vs t)(hl:vs.length<1000000){v}{r}(hv:dm v r):
 ∃H2 cs,sU aq H #[94,94] cur (.list .tight 4 [tX])=aa (.arr H.boxes.length 0 (vs.length+1) (vs.length+1),H2)/\
  dS aq 94 (.arr H.boxes.length 0 (vs.length+1) (vs.length+1)) (.v (.int .i64 (vs.length:Nat)))=aa (.ptr (.box H.boxes.length) (vs.length * 4))/\
  cE aq H2 96 (.ptr (.box H.boxes.length) (vs.length * 4)) (.agg r)=aa (H2.put H.boxes.length cs)/\
  cE aq (H2.put H.boxes.length cs) 94 (.ptr (.box c) 10) (.arr H.boxes.length 0 (vs.length+1) (vs.length+1))=aa ((H2.put H.boxes.length cs).put c (iJ ep X Y C T L (.list .nil 0 []) (.arr H.boxes.length 0 (vs.length+1) (vs.length+1)) 0 0))/\
  BI h ((H2.put H.boxes.length cs).put c (iJ ep X Y C T L (.list .nil 0 []) (.arr H.boxes.length 0 (vs.length+1) (vs.length+1)) 0 0)) ep X Y C T L kb c (.arr H.boxes.length 0 (vs.length+1) (vs.length+1)) (vs++[v]) t:=by
 have hc:=b.O5;have rB:=b.lo;have aC:=b.lt;obtain⟨H2,q1,q2,q3,q4,q5,q6,q7,cs,q8,q9⟩:=b.la.more b.ext ai hc ai hl hv;have hw:(H2.put H.boxes.length cs).boxes[c]?=aa (iJ ep X Y C T L (.list .nil 0 []) cur 0 0):=by rw[dh ai];exact q7 c _ b.work (.inr rfl)
 have hk:((H2.put H.boxes.length cs).put c (iJ ep X Y C T L (.list .nil 0 []) (.arr H.boxes.length 0 (vs.length+1) (vs.length+1)) 0 0)).boxes[kb]?=aa (aN ep X Y C):=by rw[dh ai,dh ai];exact q7 kb _ b.key (.inl ai)
 refine⟨H2,cs,q1,q6,q8,avr hw rfl,(q5.fZ (by have:=b.ext.len;omega) _).fZ ai _,?_,?_,hk,eO (by rw[mE];omega),?_,rB,aC⟩
 ·have:=b.ok;unfold cK at *
  show H2.dead.all (λn=>decide (n<H2.tn))=ah;rw[q3,q4];exact this
 ·have:=b.can;rw[Cv,Cv];rcases this with z|z|⟨m,z,z2,z3⟩
  ·exact .inl z
  ·exact .inr (.inl z)
  ·refine .inr (.inr ⟨m,z,z2,?_⟩);unfold alive at *
   rw[q3,q4];exact z3
 ·refine q9 _ ?_;rw[dh ai];exact eO (by rw[q2];omega)
def aoQ(p:Pr)(h:∀x∈[p.aA,p.no,p.d,p.e],0<=x/\x<=4611686018427387903):∃r,dm p.val r/\∀H,W5.call 112 [.list .tight 1 [[.iface 3 (.v (.int .i64 p.aA))],[.iface 3 (.v (.int .i64 p.no))],[.iface 3 (.v (.int .i64 p.d))],[.iface 3 (.v (.int .i64 p.e))]]] H=aa (.ret (.agg r),H):=by
 have:=anh .tight 1 [.iface 3 (.v (.int .i64 p.aA)),.iface 3 (.v (.int .i64 p.no)),.iface 3 (.v (.int .i64 p.d)),.iface 3 (.v (.int .i64 p.e))] [.int p.aA,.int p.no,.int p.d,.int p.e]
  (.cons (.int _ (h _ bJ)) (.cons (.int _ (h _ bJ)) (.cons (.int _ (h _ bJ)) (.cons (.int _ (h _ bJ)) .nil)))) (λ_=>rfl) bJ
 simp only[eL,wc] at this;exact this
end Go.Proofs.YtnfciiiohoafaaaGreatDoor
end
