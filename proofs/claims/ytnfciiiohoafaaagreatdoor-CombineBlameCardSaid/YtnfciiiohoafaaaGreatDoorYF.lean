/-
  The engine, part 51: a function that gives a number and takes lists whose cells may lie in boxes: for the call these boxes are lists.
-/
import Derived.Test.YtnfciiiohoafaaaGreatDoorYE
import Derived.Test.YtnfciiiohoafaaaGreatDoorYD
open True renaming intro->aT
open Go renaming FuncId->bq
open Go.Proofs.Tryz renaming prog->aj,underlying23->eY,func157->aa8,underlying22->oR,func59->abg,underlying28->jb,underlying94->qD,underlying180->abh,func158->aa9,underlying29->LU
open Option renaming none->au,some->aa,map_some->eX
open Bool renaming false->ay,true->ai,and_eq_true->bA,true_and->vR,false_and->xw
open Nat renaming zero_le->df,reduceEqDiff->aY,add_mul->fW,le_refl->aJ,beq->jw,ble->LB,eq_of_beq_eq_true->jF,le_of_ble_eq_true->lN,mul_le_mul->ry,lt_or_ge->dT,succ_ne_zero->RA,eq_zero_or_pos->Fa,mul_one->nY
open List renaming getElem?_eq_getElem->a9,mem_of_getElem?->ez,any_append->Lj,any_eq_true->EP,cons_append->jO,take_length->gM,range->bL,range_succ->oN,foldl_append->oL,any_cons->aaf,all_cons->EO,length_map->bJ,getD_eq_getElem?_getD->eQ,all_eq_true->eE,mem_range->fD,length_nil->jP,all_append->AI,all_eq_false->Re,flatten_append->qA,mem_map->jE,length_take->fb,flatten_cons->oK,length_cons->iJ,mem_cons->jm,mem_cons_self->ga,mem_cons_of_mem->fR,getElem?_eq_some_iff->aQ,getElem?_take->nU,getElem?_drop->pR,mem_of_mem_take->pS,nil_append->jZ,getElem?_append_left->ru,length_append->du,getElem?_concat_length->EU,getElem?_map->eR,take_of_length_le->fK,replicate->bm,take_append_drop->xI,mem_flatten->Ls,not_mem_nil->AN,take_left'->Is,drop_of_length_le->sK,append_nil->jv,getElem?_of_mem->vT,map_cons->ev,ext_getElem?->sM,getElem?_eq_none->qB,getElem?_range->yW,map_nil->uN,getElem_mem->iS,find?_append->aan,take_succ_cons->iK,take_zero->gm
open And renaming intro->ax
open Int renaming sub_zero->CL,natCast_zero->tU,toNat_natCast->dS
set_option maxHeartbeats 64000000
set_option maxRecDepth 100000
set_option linter.unusedSimpArgs false
set_option linter.unusedVariables false
set_option linter.constructorNameAsVariable false
set_option linter.defProp false
section
namespace Go.Proofs.YtnfciiiohoafaaaGreatDoor
open Go.AE Go.NT
section
variable {pr:bq->Option (List AV->ao->Option (AV × ao))}
def P1:Tryz.f159.results.toList=[.tmp 4]:=aw
def ahO(rU:pr 167=au)(g:bq)(aA:List AV)(p:Int->Bool)(h:ao)(x:AV)(l:List Int)(hx:IL x l)(hl:l.length<=1000000)(hp:∀n∈l,(whole aj Gt pr).call g (im n::aA) h=aa (.ret (.v (.bool (p n))),h)):
 ∃r h',(whole Tryz.prog Gt pr).call 167 [x,.func (.func g) [] aA] h=some (r,h')/\h'=h/\∃i:Int,r=.ret (im i)/\decide (0<=i)=l.any p:=by
 obtain⟨k,s,rfl,hs⟩:=hx;have kp:=aq.mk hp;have ks:=aq.mk hs;clear hp hs;have u23:=eY;have z3:=iQ;have dG:=eT l;refine ec rU Tryz.func167 rfl ?_;refine bR @uA ?_;refine de (λm e H=>∃i:Nat,i<=l.length/\m=l.length - i/\(l.take i).any p=ay/\e.get 0=.list k s (ints l)/\e.get 1=.func (.func g) [] aA/\e.get 7=.v (.int .i64 (l.length:Nat))/\e.get 8=.v (.int .i64 (i:Nat))/\e.defers=[]/\H=h) ?_ l.length _ _ ?_;rotate_left 1
 ·refine⟨0,df _,rfl,by simp,?_,?_,?_,?_,?_,rfl⟩<;>exact gR
 rintro m e H ⟨i,hi,rfl,ha,g0,g1,g7,g8,hd,rfl⟩;have ka:=aq.mk ha;clear ha;by_cases az:i<l.length
 ·have cK:s=1:=ks.out (by intro q;rw[q] at az;simp at az);subst cK;have ld:=fP (H:=H) (s:=1) az;have hv:l[i]?=aa (al l i):=by rw[a9 az,fx az]
  have hc:=kp.out (al l i) (ez hv);have ir:(i:Int)<(l.length:Int):=by omega
  have pF:(l.take (i+1)).any p=p (al l i):=by rw[gx hv,Lj,ka.out];simp
  have kt:=aq.mk pF;have kh:=aq.mk hv;clear hv pF;unfold im at hc;cases fm:p (al l i) with
  |true=>rw[fm] at hc;have jS:l.any p=ai:=EP.2 ⟨_,ez kh.out,fm⟩;have kan:=aq.mk jS;clear jS fm;refine eg @uA @ck @jO.{0} ?_;exact⟨_,_,rfl,rfl,(i:Int),rfl,by rw[kan.out];simp⟩
  |false=>rw[fm] at hc;have kt2:(l.take (i+1)).any p=ay:=kt.out.trans fm;clear fm;refine eg @uA @ck @jO.{0} ?_;exact⟨l.length - (i+1),by omega,i+1,by omega,rfl,kt2,by simp⟩
 ·have:i=l.length:=by omega
  subst this;have:=ka.out;rw[gM] at this;have kan:=aq.mk this;clear this;refine bR @uA ?_;exact⟨_,_,rfl,rfl,-1,rfl,by rw[kan.out];rfl⟩
def IP(M5:pr 167=au)(M4:pr 126=au)(g:bq)(aA:List AV)(p:Int->Bool)(h:ao)(x:AV)(l:List Int)(hx:IL x l)(hl:l.length<=1000000)(hp:∀n∈l,(whole aj Gt pr).call g (im n::aA) h=aa (.ret (.v (.bool (p n))),h)):
 (whole aj Gt pr).call 126 [x,.func (.func g) [] aA] h=aa (.ret (.v (.bool (l.any p))),h):=by
 obtain⟨r,h',c,rfl,i,rfl,hi⟩:=ahO M5 g aA p h x l hx hl hp;have Jl:decide (0<=i)=l.any p:=hi;unfold im at c;refine cN M4 Tryz.func126 rfl ?_;clear hi hp;exact mJ @PW
def apU(rU:pr 159=au)(zF:∀a b h,(whole aj Gt pr).call 28 [im a,im b] h=aa (.ret (im (cS a b)),h))(g:bq)(aA:List AV)(f:Nat->Int)(h:ao)(x:AV)(l:List Int)(hx:IL x l)(hl:l.length<=1000000)
 (hp:∀i,i<l.length->(whole aj Gt pr).call g (im (i:Nat)::im (al l i)::aA) h=aa (.ret (im (f i)),h)):
 ∃h',(whole aj Gt pr).call 159 [x,.func (.func g) [] aA] h=aa (.ret (im ((bL l.length).foldl (λx j=>cS x (f j)) 0)),h')/\h'=h:=by
 obtain⟨k,s,rfl,hs⟩:=hx;have kp:=aq.mk (ax hp hs);clear hp hs;have u23:=eY;have z3:=iQ;have dG:=eT l;unfold im;refine ij rU Tryz.func159 rfl ?_;refine bR @P1 ?_;refine de (λm e H=>∃i:Nat,i<=l.length/\m=l.length - i/\e.get 1=.func (.func g) [] aA/\e.get 4=.v (.int .i64 ((bL i).foldl (λx j=>cS x (f j)) 0))/\e.get 7=.list k s (ints l)/\e.get 8=.v (.int .i64 (l.length:Nat))/\e.get 9=.v (.int .i64 (i:Nat))/\e.defers=[]/\H=h) ?_ l.length _ _ ?_;rotate_left 1
 ·refine⟨0,df _,rfl,?_,?_,?_,?_,?_,?_,rfl⟩<;>exact gR
 rintro m e H ⟨i,hi,rfl,g1,g4,g7,g8,g9,hd,rfl⟩;by_cases az:i<l.length
 ·have cK:s=1:=kp.out.2 (by intro q;rw[q] at az;simp at az);subst cK;have ld:=fP (H:=H) (s:=1) az;have hc:=kp.out.1 i az;have ha:=λv=>zF v (f i) H;have ir:(i:Int)<(l.length:Int):=by omega
  have cd:cS ((bL i).foldl (λx j=>cS x (f j)) 0) (f i)=(bL (i+1)).foldl (λx j=>cS x (f j)) 0:=by rw[oN,oL];rfl
  have kst:=aq.mk cd;clear cd;generalize (bL i).foldl (λx j=>cS x (f j)) 0=acc at *
  unfold im at hc ha;refine eg @P1 @ck @jO.{0} ?_;exact⟨l.length - (i+1),by omega,i+1,by omega,rfl,by trivial,by rw[kst.out],by simp⟩
 ·have:i=l.length:=by omega
  subst this;refine bR @P1 ?_;exact⟨_,rfl,rfl⟩
end
def XV:Tryz.f157.results.toList=[.tmp 2]:=aw
def am0:Tryz.f107.results.toList=[.tmp 2]:=aw
def XO:Tryz.f108.results.toList=[.tmp 2]:=aw
def am1:Tryz.f110.results.toList=[.tmp 4]:=aw
def ane:Tryz.f160.results.toList=[.tmp 5]:=aw
def ani:Tryz.f168.results.toList=[.tmp 2]:=aw
def Km:Tryz.f129.results.toList=[.tmp 4]:=aw
def PX:Tryz.f130.results.toList=[.tmp 4]:=aw
def anA:Tryz.f57.results.toList=[.tmp 4]:=aw
def anC:Tryz.f77.results.toList=[.tmp 4]:=aw
def aky(x n)(h):W4.call 57 [im x,im n] h=aa (.ret (im (eU x n)),h):=by
 have c:=MX x n;unfold im at *
 refine cN rfl Tryz.func57 rfl ?_;exact mJ @anA
def akz(x n)(h):W4.call 77 [im x,im n] h=aa (.ret (im (eU x n)),h):=by
 have c:=MX x n;unfold im at *
 refine cN rfl Tryz.func77 rfl ?_;exact mJ @anC
def ajj(n):mP n= !cE n:=by
 unfold mP cE Qi;by_cases h0:n<0
 ·rw[cz h0,cX (ah:¬0<=n)];rfl
 ·by_cases h1:1073741789<=n
  ·rw[cX h0,cz h1,cz (ah:0<=n),cX (ah:¬n<1073741789)];rfl
  ·rw[cX h0,cX h1,cz (ah:0<=n),cz (ah:n<1073741789)];rfl
def ajh(n)(h):W4.call 157 [im n] h=aa (.ret (.v (.bool (mP n))),h):=by
 unfold im mP;by_cases h0:n<0
 ·refine cN rfl aa8 rfl ?_;have:decide (n<0)=ai:=by simp[h0]
  exact jq @XV @Bool.true_or
 ·refine cN rfl aa8 rfl ?_;have:decide (n<0)=ay:=by simp[h0]
  exact jq @XV @Bool.false_or
def Ma(l:List Int):(!l.any mP)=l.all cE:=by
 induction l with
 |nil=>rfl|cons a l ih=>rw[aaf,EO,<-ih,ajj];simp
def WR(x)(l)(hx:IL x l)(hl:l.length<=1000000)(h):W4.call 107 [x] h=aa (.ret (.v (.bool (l.all cE))),h):=by have c:=IP (pr:=Ei) rfl rfl 157 [] mP h x l hx hl (λn _=>ajh n h);have hv:(!l.any mP)=l.all cE:=Ma l;refine cN rfl Tryz.func107 rfl ?_;clear hx;exact mJ @am0
def Tb(h:ao)(x y:AV)(ae:List (List Int))(ag:List Int)(hx:RL x ae)(hy:IL y ag):∃h',W4.call 108 [.agg [x,y]] h=aa (.ret (.v (.int .i64 (bV ae:Nat))),h')/\h'=h.push [x,y]:=by
 obtain⟨k,s,xs,rfl,hs,ff,gI⟩:=hx;have bx:(AV.agg [.list k s (xs.map λa=>[a]),y]).bU=aa [.list k s (xs.map λa=>[a]),y]:=by obtain⟨ky,sy,rfl,-⟩:=hy;rfl
 have l0:=vw (bp h [.list k s (xs.map λa=>[a]),y]);have u23:=eY;have u22:=oR;have z23:=jN;have dG:(xs.map λa=>[a]).length=ae.length:=by rw[bJ];exact ff
 refine ij rfl Tryz.func108 rfl ?_;by_cases h0:ae.length=0
 ·have hq:(ae.length:Int)=0:=by omega
  have hc:bV ae=1:=by unfold bV;rw[aD h0]
  rw[hc];clear h0 gI hs ff hc;refine eg @XO @bK @eN ?_;exact⟨_,rfl,rfl⟩
 ·have hq:¬((ae.length:Int)=0):=by omega
  obtain⟨a0,jd⟩:∃a,xs[0]?=aa a:=⟨_,a9 ah⟩;obtain⟨r0,iN⟩:∃r,ae[0]?=aa r:=⟨_,a9 ah⟩;have cK:s=1:=hs (by intro q;rw[q] at h0;simp at h0);subst cK;have ld0:=oY (H:=h.push [.list k 1 (xs.map λa=>[a]),y]) (s:=1) jd;obtain⟨ka0,sa0,rfl,um⟩:=gI 0 a0 r0 jd iN;have hc:bV ae=r0.length:=by unfold bV;rw[aG h0,eQ,iN];rfl
  rw[hc];have ej:=eT r0;have FK:(0:Int)<(ae.length:Int):=by omega
  have z0:(0:Int).toNat=0:=rfl;clear h0 gI hs ff hc jd iN um;refine bW @XO @bK @eN @ck ?_;exact⟨_,rfl,rfl⟩
def aqn(h:ao)(b i:Nat)(n:Int)(y:AV)(l:List Int)(hb:h.boxes[b]?=aa [y])(hy:IL y l)(hi:i<l.length):W4.call 160 [im (i:Nat),im n,.ptr (.box b) 0] h=aa (.ret (im (db n (al l i))),h):=by
 obtain⟨k,s,rfl,hs⟩:=hy;have cK:s=1:=hs (by intro q;rw[q] at hi;simp at hi);subst cK;have l1:=uu hb;have ld:=fP (H:=h) (s:=1) hi;have u23:=eY;have z3:=iQ;have dG:=eT l;have hiI:(i:Int)<(l.length:Int):=by omega
 have c:=WG n (al l i);unfold im at *
 clear hs hb;refine cN rfl Tryz.func160 rfl ?_;exact jq @ane @ck
def aql(h:ao)(x y:AV)(a b:List Int)(hx:IL x a)(hy:IL y b)(hl:a.length<=1000000)(yc:a.length<=b.length):∃h',W4.call 110 [x,y] h=aa (.ret (im (oi a b)),h')/\h'=h.push [y]:=by
 obtain⟨_,c,rfl⟩:=apU (pr:=Ei) rfl (λa b h=>R6 a b h) 160 [.ptr (.box h.boxes.length) 0] (λi=>db (al a i) (al b i)) (h.push [y]) x a hx hl (λi hi=>aqn (h.push [y]) h.boxes.length i (al a i) y b (bp _ _) hy ah);have cy:y.bU=aa [y]:=by obtain⟨k,s,rfl,-⟩:=hy;rfl
 have e:(bL a.length).foldl (λx j=>cS x (db (al a j) (al b j))) 0=oi a b:=rfl;rw[e] at c;unfold im at *
 clear hx hy e;refine ij rfl Tryz.func110 rfl ?_;refine cq @am1 @bK ?_;exact⟨_,rfl,rfl⟩
def aqH(n)(h):W4.call 168 [im n] h=aa (.ret (.v (.bool (!b9 n))),h):=by
 have c:=Zm n;unfold im at *
 refine cN rfl Tryz.func168 rfl ?_;exact mJ @ani
def Se(p)(l:List Int):(l.any λn=> !p n)= !l.all p:=by
 induction l with
 |nil=>rfl|cons a l ih=>rw[aaf,EO,ih];simp
def nu:Tryz.f115.results.toList=[.tmp 2]:=aw
def akY(h:ao)(x y:AV)(ae:List (List Int))(ag:List Int)(hx:RL x ae)(hy:IL y ag)(ej:ae.length<=1000000):
 ∃r h',W4.call 115 [.agg [x,y]] h=aa (r,h')/\h'=h.push [x,y]/\r=.ret (.v (.int .i64 (dn ae ag))):=by
 obtain⟨k,s,xs,rfl,hs,ff,gI⟩:=hx;obtain⟨ky,sy,rfl,rX⟩:=hy;have kk:=aq.mk (ax hs (ax gI rX));clear hs gI rX;have u23:=eY;have u22:=oR;have z23:=jN;have z3:=iQ;have dG:(xs.map λa=>[a]).length=ae.length:=by rw[bJ];exact ff
 have tG:=eT ag;have b0:(h.push [.list k s (xs.map λa=>[a]),.list ky sy (ints ag)]).boxes[h.boxes.length]?=aa [.list k s (xs.map λa=>[a]),.list ky sy (ints ag)]:=bp _ _;have l0:=vw b0;have l1:=ON b0;have bx:(AV.agg [.list k s (xs.map λa=>[a]),.list ky sy (ints ag)]).bU=aa [.list k s (xs.map λa=>[a]),.list ky sy (ints ag)]:=rfl;clear b0;have k1:aq (64<ae.length->dn ae ag=2):=⟨λq=>by unfold dn;rw[aD (by simp[q])]⟩;have k2:aq (∀(i:Nat) r,ae[i]?=aa r->64<r.length->dn ae ag=2):=⟨λi r hr q=>by unfold dn;rw[aD];rw[Bool.or_eq_true];exact .inr (EP.2 ⟨r,ez hr,by simp[q]⟩)⟩;have k3:aq (ae.length<=64->(ae.any λr=>decide (64<r.length))=ay->ae.length≠ag.length->dn ae ag=230):=⟨λq1 q2 q3=>by unfold dn;rw[aG (by rw[q2];simp;omega),aD q3]⟩;have k4:aq (ae.length<=64->(ae.any λr=>decide (64<r.length))=ay->ae.length=ag.length->dn ae ag=if ((bL ae.length).all (sW ae ag))=ai then (0:Int) else 230):=⟨λq1 q2 q3=>by unfold dn;rw[aG (by rw[q2];simp;omega),aG (by simpa using q3)];rfl⟩;generalize dn ae ag=res at *
 obtain⟨H,hH⟩:∃H,h.push [.list k s (xs.map λa=>[a]),.list ky sy (ints ag)]=H:=⟨_,rfl⟩;rw[hH] at l0 l1;rw[hH];refine ec rfl Tryz.func115 rfl ?_;by_cases h1:64<ae.length
 ·have hq:((64:Int)<(ae.length:Int)):=by omega
  have kr:=aq.mk (k1.out h1);clear h1;refine bW @nu @eN @gq (ax @bK @hH) ?_;exact⟨_,_,rfl,rfl,by rw[kr.out]⟩
 have hq:¬((64:Int)<(ae.length:Int)):=by omega
 have Ul:ae.length<=64:=by omega
 refine bW @nu @eN @gq (ax @bK @hH) ?_;refine bM.gen λe0 aV cY eV eO=>?_;have f1:e0.get 1=.ptr (.box h.boxes.length) 0:=by rw[aV];exact gS
 have f3:e0.get 3=.v (.int .i64 (0:Nat)):=by rw[aV];exact gR
 have fd:e0.defers=[]:=by rw[cY];exact gS
 clear aV cY eV eO bx hq h1 hH;refine de (λm e H2=>∃i:Nat,i<=ae.length/\m=ae.length - i/\aq (((ae.take i).any λr=>decide (64<r.length))=ay)/\e.get 1=.ptr (.box h.boxes.length) 0/\e.get 3=.v (.int .i64 (i:Nat))/\e.defers=[]/\H2=H) ?_ ae.length _ _ ?_;rotate_left 1
 ·exact⟨0,df _,rfl,⟨bG⟩,f1,f3,fd,rfl⟩
 clear f1 f3 fd;rintro m e H ⟨i,hi,rfl,kt,g1,g3,hd,rfl⟩;by_cases az:i<ae.length
 ·have cK:s=1:=kk.out.1 (by intro q;rw[q] at az;simp at az);subst cK;obtain⟨a,iV⟩:∃a,xs[i]?=aa a:=⟨_,a9 ah⟩;obtain⟨r,hv⟩:∃r,ae[i]?=aa r:=⟨_,a9 az⟩;have ld:=oY (H:=H) (s:=1) iV;obtain⟨ka,sa,rfl,mN⟩:=kk.out.2.1 i a r iV hv;have DN:=eT r;have ir:(i:Int)<(ae.length:Int):=by omega
  by_cases hb:64<r.length
  ·have hbI:((64:Int)<(r.length:Int)):=(by omega);have kr:=aq.mk (k2.out i r hv hb);clear iV hv mN hb;refine bW @nu @eN @gq @ck ?_;exact⟨_,_,rfl,rfl,by rw[kr.out]⟩
  ·have hbI:¬((64:Int)<(r.length:Int)):=(by omega);have kt2:aq (((ae.take (i+1)).any λr=>decide (64<r.length))=ay):=⟨by rw[gx hv,Lj,kt.out];simp;omega⟩;clear iV hv mN hb;refine bW @nu @eN @gq @ck ?_;exact⟨ae.length - (i+1),by omega,i+1,by omega,rfl,kt2,by simp⟩
 have jz:i=ae.length:=by omega
 subst jz;have jS:=kt.out;rw[gM] at jS;have kany:=aq.mk jS;clear jS kt hi;by_cases h3:ae.length=ag.length;rotate_left 1
 ·have kr:=aq.mk (k3.out Ul kany.out h3);have hn:¬((ae.length:Int)=(ag.length:Int)):=by omega
  clear h3;refine eg @nu @eN @gq ?_;exact⟨_,_,rfl,rfl,by rw[kr.out]⟩
 have kres:=aq.mk (k4.out Ul kany.out h3);have kn:=aq.mk h3;have hn:(ag.length:Int)=(ae.length:Int):=by omega
 clear h3;refine eg @nu @eN @gq ?_;refine bM.gen λe0 aV cY eV eO=>?_;have f1:e0.get 1=.ptr (.box h.boxes.length) 0:=by rw[aV];simp only[gW,reduceIte,aY,aR];exact g1
 have f4:e0.get 4=.v (.int .i64 (0:Nat)):=by rw[aV];exact gR
 have fd:e0.defers=[]:=by rw[cY];simp only[gW,reduceIte,aY,aR];exact hd
 clear aV cY eV eO g1 g3 hd az;refine de (λm e H2=>∃i:Nat,i<=ae.length/\m=ae.length - i/\aq (∀j,j<i->sW ae ag j=ai)/\e.get 1=.ptr (.box h.boxes.length) 0/\e.get 4=.v (.int .i64 (i:Nat))/\e.defers=[]/\H2=H) ?_ ae.length _ _ ?_;rotate_left 1
 ·exact⟨0,df _,rfl,⟨λj hj=>absurd hj (Nat.not_lt_zero _)⟩,f1,f4,fd,rfl⟩
 clear f1 f4 fd;rintro m e H3 ⟨i,hi,rfl,kf,g1,g4,hd,rfl⟩;by_cases az:i<ae.length;rotate_left 1
 ·have jz:i=ae.length:=by omega
  subst jz;have k0:aq (res=0):=⟨by rw[kres.out,aD];rw[eE];intro j hj;exact kf.out j (fD.1 hj)⟩;refine eg @nu @eN @gq ?_;exact⟨_,_,rfl,rfl,by rw[k0.out]⟩
 have cK:s=1:=kk.out.1 (by intro q;rw[q] at az;simp at az);subst cK;have oB:sy=1:=kk.out.2.2 (by intro q;have h0:=kn.out;rw[q,jP] at h0;omega);subst oB;obtain⟨a,iV⟩:∃a,xs[i]?=aa a:=⟨_,a9 ah⟩;obtain⟨r,hv⟩:∃r,ae[i]?=aa r:=⟨_,a9 az⟩;obtain⟨a0,jd⟩:∃a,xs[0]?=aa a:=⟨_,a9 ah⟩;obtain⟨r0,iN⟩:∃r,ae[0]?=aa r:=⟨_,a9 ah⟩;have ld:=oY (H:=H3) (s:=1) iV;have ld0:=oY (H:=H3) (s:=1) jd;obtain⟨ka,sa,rfl,mN⟩:=kk.out.2.1 i a r iV hv;obtain⟨ka0,sa0,rfl,um⟩:=kk.out.2.1 0 a0 r0 jd iN;have ar5:=eT r;have BT:=eT r0;have ldo:=fP (H:=H3) (l:=ag) (i:=i) (s:=1) (by have:=kn.out;omega);have wO:sW ae ag i=(!r.isEmpty&&decide (r.length=r0.length)&&vD (al ag i)&&r.all cE):=by
  unfold sW vD;have g1:ae.getD i []=r:=by rw[eQ,hv];rfl
  have g2:ae.getD 0 []=r0:=by rw[eQ,iN];rfl
  rw[g1,g2]
 have eZ:=aq.mk wO;have kbad:aq (sW ae ag i=ay->res=230):=⟨by intro q;rw[kres.out,aG];intro z;rw[eE] at z;have:=z i (fD.2 az);rw[q] at this;cases this⟩;have ir:(i:Int)<(ae.length:Int):=by omega
 have FK:(0:Int)<(ae.length:Int):=by omega
 have z0:(0:Int).toNat=0:=rfl;have ks:=aq.mk mN;have UK:r.length<=64:=by have q:=kany.out;rw[List.any_eq_false] at q;have:=q r (ez hv);simpa using this
 clear wO iV hv mN jd iN um;generalize al ag i=o at *
 by_cases e1:r.length=0
 ·have rV:decide ((r.length:Int)<1)=ai:=cz ah;have kb:aq (res=230):=⟨kbad.out (by rw[eZ.out,List.length_eq_zero_iff.1 e1];rfl)⟩;clear e1;refine bW @nu @eN @gq @ck ?_;refine fQ wm aw ?_;refine bW @nu @eN @gq @ck ?_;exact⟨_,_,rfl,rfl,by rw[kb.out]⟩
 have rV:decide ((r.length:Int)<1)=ay:=cX ah;have ot:r.isEmpty=ay:=by cases r with|nil=>exact absurd rfl e1|cons _ _=>rfl
 clear e1;by_cases e2:r.length=r0.length;rotate_left 1
 ·have qT:decide ((r.length:Int)=(r0.length:Int))=ay:=cX ah;have kb:aq (res=230):=⟨kbad.out (by rw[eZ.out,ot,cX e2];rfl)⟩;clear e2 ot;refine bW @nu @eN @gq @ck ?_;refine fQ wm aw ?_;refine bW @nu @eN @gq @ck ?_;exact⟨_,_,rfl,rfl,by rw[kb.out]⟩
 have qT:decide ((r.length:Int)=(r0.length:Int))=ai:=cz ah;have ke2:=aq.mk e2;clear e2;by_cases e3:o<0
 ·have VD:decide (o<0)=ai:=cz e3;have kb:aq (res=230):=⟨kbad.out (by rw[eZ.out];unfold vD;rw[cX (ah:¬0<=o)];simp)⟩;clear e3 ot;refine bW @nu @eN @gq @ck ?_;refine fQ wm aw ?_;refine bW @nu @eN @gq @ck ?_;exact⟨_,_,rfl,rfl,by rw[kb.out]⟩
 have VD:decide (o<0)=ay:=cX e3;by_cases e4:64<=o
 ·have VE:decide (64<=o)=ai:=cz e4;have kb:aq (res=230):=⟨kbad.out (by rw[eZ.out];unfold vD;rw[cX (ah:¬o<=63)];simp)⟩;clear e3 e4 ot;refine bW @nu @eN @gq @ck ?_;refine fQ wm aw ?_;refine bW @nu @eN @gq @ck ?_;exact⟨_,_,rfl,rfl,by rw[kb.out]⟩
 have VE:decide (64<=o)=ay:=cX e4;have kfin2:aq (sW ae ag i=r.all cE):=⟨by rw[eZ.out,ot,cz ke2.out];unfold vD;rw[cz (ah:0<=o),cz (ah:o<=63)];rfl⟩;clear e3 e4 ot;refine bW @nu @eN @gq @ck ?_;refine fQ wm aw ?_;refine bW @nu @eN @gq @ck ?_;refine bM.gen λe0 aV cY eV eO=>?_;have f1:e0.get 1=.ptr (.box h.boxes.length) 0:=by rw[aV];simp only[gW,reduceIte,aY,aR];exact g1
 have f4:e0.get 4=.v (.int .i64 (i:Nat)):=by rw[aV];simp only[gW,reduceIte,aY,aR];exact g4
 have f5:e0.get 5=.v (.int .i64 (0:Nat)):=by rw[aV];exact gR
 have fd:e0.defers=[]:=by rw[cY];simp only[gW,reduceIte,aY,aR];exact hd
 clear aV cY eV eO g1 g4 hd;refine de (λm e H2=>∃j:Nat,j<=r.length/\m=r.length - j/\aq ((r.take j).all cE=ai)/\e.get 1=.ptr (.box h.boxes.length) 0/\e.get 4=.v (.int .i64 (i:Nat))/\e.get 5=.v (.int .i64 (j:Nat))/\e.defers=[]/\H2=H3) ?_ r.length _ _ ?_;rotate_left 1
 ·exact⟨0,df _,rfl,⟨bG⟩,f1,f4,f5,fd,rfl⟩
 clear f1 f4 f5 fd rV qT VD VE ldo ld0;rintro m e H4 ⟨j,hj,rfl,ka4,g1,g4,g5,hd,rfl⟩;by_cases qO:j<r.length
 ·have qh:sa=1:=ks.out (by intro q;rw[q] at qO;simp at qO);subst qh;have ldx:=fP (H:=H4) (s:=1) qO;have pG:r[j]?=aa (al r j):=by rw[a9 qO,fx qO]
  have arR:(j:Int)<(r.length:Int):=by omega
  have pF:(r.take (j+1)).all cE=cE (al r j):=by rw[gx pG,AI,ka4.out];simp
  have kt5:=aq.mk (ax pF (ez pG));have VF:cE (al r j)=(decide (0<=al r j)&&decide (al r j<1073741789)):=rfl;have kqq:=aq.mk VF;clear pG pF VF;generalize al r j=n at *
  by_cases d1:n<0
  ·have hU:decide (n<0)=ai:=cz d1;have kb:aq (res=230):=⟨kbad.out (by rw[kfin2.out,Re];exact⟨n,kt5.out.2,by rw[kqq.out,cX (ah:¬0<=n)];simp⟩)⟩;clear d1;refine bW @nu @eN @gq @ck ?_;exact⟨_,_,rfl,rfl,by rw[kb.out]⟩
  have hU:decide (n<0)=ay:=cX d1;by_cases d2:1073741789<=n
  ·have jJ:decide (1073741789<=n)=ai:=cz d2;have kb:aq (res=230):=⟨kbad.out (by rw[kfin2.out,Re];exact⟨n,kt5.out.2,by rw[kqq.out,cX (ah:¬n<1073741789)];simp⟩)⟩;clear d1 d2;refine bW @nu @eN @gq @ck ?_;exact⟨_,_,rfl,rfl,by rw[kb.out]⟩
  have jJ:decide (1073741789<=n)=ay:=cX d2;have kt2:aq ((r.take (j+1)).all cE=ai):=⟨by rw[kt5.out.1,kqq.out,cz (ah:0<=n),cz (ah:n<1073741789)];rfl⟩;clear d1 d2;refine bW @nu @eN @gq @ck ?_;exact⟨r.length - (j+1),by omega,j+1,by omega,rfl,kt2,by simp⟩
 ·have tC:j=r.length:=by omega
  subst tC;have eI:=ka4.out;rw[gM] at eI;have kf2:aq (∀j,j<i+1->sW ae ag j=ai):=⟨λj hj=>by
   rcases Nat.lt_succ_iff_lt_or_eq.1 hj with q|q
   ·exact kf.out j q
   ·rw[q,kfin2.out];exact eI⟩
  clear eI;refine bW @nu @eN @gq @ck ?_;exact⟨ae.length - (i+1),by omega,i+1,by omega,rfl,kf2,by simp⟩
end Go.Proofs.YtnfciiiohoafaaaGreatDoor
end
section
namespace Go.AE
open Go.RowKit (Below)
def xc(z:Nat)(cs:List AV)(off len:Nat):List (List AV):=(bL len).map λi=>(cs.drop (off+i * z)).take z
def Kj(z)(cs)(off):∀len,(xc z cs off len).flatten=(cs.drop off).take (len * z)
 |0=>by simp[xc]
 |n+1=>by
  have ih:=Kj z cs off n;unfold xc at *
  rw[oN,List.map_append,qA,ih,fW,Nat.one_mul,List.take_add,List.drop_drop];simp
def amT(z)(cs)(off len):(xc z cs off len).length=len:=by unfold xc;simp
def amU{z}{cs}{off len}(h:off+len * z<=cs.length):∀r∈xc z cs off len,r.length=z:=by intro r hr;unfold xc at hr;obtain⟨i,hi,rfl⟩:=jE.1 hr;have hi:=fD.1 hi;have:(i+1) * z<=len * z:=Nat.mul_le_mul_right _ hi;rw[fW] at this;rw[fb,List.length_drop];omega
mutual
def jR(z:Nat)(h:ao):AV->AV
 | .list k sz es=>.list (ct k) sz (qJ z h es)
 | .arr b off len aA=>match h.boxes[b]? with
  |some cs=>if off+len * z<=cs.length/\0<z then .list .held z (fS (xc z cs off len)) else .arr b off len aA
  |none=>.arr b off len aA
 | .tuple cs=>.tuple (lP z h cs)
 | .agg cs=>.agg (lP z h cs)
 | .iface t x=>.iface t (jR z h x)
 |x=>x
def lP(z:Nat)(h:ao):List AV->List AV
 | []=>[]
 |x::r=>jR z h x::lP z h r
def qJ(z:Nat)(h:ao):List (List AV)->List (List AV)
 | []=>[]
 |r::rs=>lP z h r::qJ z h rs
end
section
variable {z:Nat} {h:ao}
def TW:∀a b:List AV,lP z h (a++b)=lP z h a++lP z h b
 | [],b=>rfl
 |x::a,b=>by rw[jO,lP,TW a b,lP,jO]
def Jd:∀es:List (List AV),(qJ z h es).flatten=lP z h es.flatten
 | []=>rfl
 |r::es=>by rw[qJ,oK,oK,TW,Jd es]
def TY:∀a:List AV,(lP z h a).length=a.length
 | []=>rfl
 |x::a=>by rw[lP,iJ,TY a,iJ]
def TZ:∀a:List (List AV),(qJ z h a).length=a.length
 | []=>rfl
 |x::a=>by rw[qJ,iJ,TZ a,iJ]
def T1{sz:Nat}:∀{es:List (List AV)},(∀r∈es,r.length=sz)->∀r∈qJ z h es,r.length=sz
 | [],_,r,hr=>by cases hr
 |a::es,hh,r,hr=>by
  rw[qJ] at hr;rcases jm.1 hr with rfl|hr
  ·rw[TY];exact hh a ga
  ·exact T1 (λr hr=>hh r (fR _ hr)) r hr
def afD(x:AV):(jR z h x).dW=x.dW:=by
 cases x with
 |arr b off len aA=>
  rw[jR];split
  ·split<;>rfl
  ·rfl
 |_=>rfl
def TX:∀a:List AV,(lP z h a).all AV.dW=a.all AV.dW
 | []=>rfl
 |x::a=>by rw[lP,EO,afD,TX a,EO]
end
section
variable {P:Program} {G:Nat->Option (List AV)} {ok:bq->Nat->Code->Bool} {w0 w w':World} {K:aP} {h:ao} {z:Nat}
def aP.still(K:aP)(w:World):aP:={K with base:=w.heap.size,β:=[],γ:=[],tn:=0,md:=[],ic:=λg j=>w.cell? ⟨g,j,au⟩}
def HI(s:bN K G ok w0 h w):∀g j c,K.ic g j=aa c->(K.still w).ic g j=aa c:=s.ic
mutual
def aU.nb(s:bN K G ok w0 h w):∀{x:AV} {c:Value},aU K x c->aW 0 0 0 (jR z h x)=ai->aU (K.still w) (jR z h x) c
 |_,_,.bad c,_=>.bad c
 |_,_,.v x hx,_=>.v x hx
 |_,_,.nil sz,_=>.nil sz
 |_,_,.iY sz a,_=>.iY sz a
 |_,_,.list k sz es g off m aA cells hn hr hv hc ht ha,hf=>by
  simp only[jR,aW,bA] at hf;have pG:=aM.nb s hv (by rw[<-Jd,sX];exact hf.2);rw[<-Jd] at pG;have tF:m=(qJ z h es).length:=by rw[TZ];exact hn
  have oU:(qJ z h es).flatten.all AV.dW=ai:=by rw[Jd,TX];exact ha
  have jg:=T1 (z:=z) (h:=h) hr;have Bo:=λj c hj=>s.ic _ _ _ (hc j c hj);cases k with|nil=>exact ht.2.elim|tight=>exact .list .tight sz _ g off m aA cells tF jg pG Bo ⟨ht.1,ht.2⟩ oU|free i=>exact .list .held sz _ g off m aA cells tF jg pG Bo ⟨ht.1,aT⟩ oU|held=>exact .list .held sz _ g off m aA cells tF jg pG Bo ⟨ht.1,aT⟩ oU
 |_,_,.arr b g off len aA fi hJ hb hl oV ho hr,hf=>by
  simp only[jR] at hf ⊢;cases bZ:h.boxes[b]? with
  |none=>rw[bZ] at hf;simp[aW] at hf|some cs=>
   rw[bZ] at hf;simp only at hf ⊢;split at hf
   ·rename_i eC;rw[aD eC];obtain⟨eC,hz⟩:=eC;obtain⟨q1,q2,q3,cells,e,q4,q5⟩:=s.box b g cs hb bZ;have ag2:=q5.le;by_cases h0:aA=0
    ·have:len=0:=(by omega);subst this;exact .list .held z [] g fi 0 hJ [] rfl (λ_ h=>by cases h) .nil (λ_ _ h=>by simp at h) ⟨df _,aT⟩ rfl
    ·have zV:fi=off:=by rcases ho with p|p<;>omega
     subst zV;have hv:aM K ((cs.drop fi).take (len * z)) (((cells.toList.take cs.length).drop fi).take (len * z)):=(q5.1.drop fi).take (len * z);have pG:=aM.mn (K2:=K.still w) (HI s) (aM.hold hv) (by simp only[aW,bA] at hf;have:=hf.2;rw[<-sX,DJ,Kj] at this;exact this);rw[<-Kj,<-DJ] at pG;refine .list .held z _ g fi len hJ (((cells.toList.take cs.length).drop fi).take (len * z)) (by rw[Gp,amT]) (JB (amU eC)) pG (λj c hj=>?_) ⟨ah,aT⟩ ?_
     ·have oW:j<len * z:=(by have:=(aQ.1 hj).1;rw[fb] at this;omega);rw[nU,aD oW,pR,nU,aD ah] at hj;show w.cell? ⟨g,fi+j,au⟩=aa c;rw[rJ q4];simpa using hj
     ·rw[DJ,N9,Kj];rw[eE] at q3 ⊢;exactλx hx=>q3 x (List.mem_of_mem_drop (pS hx))
   ·simp[aW] at hf
 |_,_,.agg cs vs hv,hf=>.agg _ vs (aM.nb s hv (by simpa only[jR,aW] using hf))
 |_,_,.tuple cs vs hv,hf=>.tuple _ vs (aM.nb s hv (by simpa only[jR,aW] using hf))
 |_,_,.box b g off hb,hf=>by simp[jR,aW] at hf
 |_,_,.eG g off,_=>.eG g off
 |_,_,.elem sz es i off g o p cells hr hv hc hi hp ha,hf=>.elem sz es i off g o p cells hr (aM.mn (HI s) hv (by rw[sX];simpa only[jR,aW] using hf)) (λj c hj=>s.ic _ _ _ (hc j c hj)) hi hp ha
 |_,_,.func fn first aA fs cs h1 h2,hf=>by simp only[jR,aW,bA] at hf;exact .func fn first aA fs cs (aM.mn (HI s) h1 hf.1) (aM.mn (HI s) h2 hf.2)
 |_,_,.yield l g hl,hf=>by simp[jR,aW] at hf
 |_,_,.iface t x c hx,hf=>by simp only[jR,aW] at hf;exact .iface t _ c (aU.nb s hx hf)
def aM.nb(s:bN K G ok w0 h w):∀{xs:List AV} {cs:List Value},aM K xs cs->bg 0 0 0 (lP z h xs)=ai->aM (K.still w) (lP z h xs) cs
 |_,_,.nil,_=>.nil
 |_,_,.cons x c xs cs hx hs,hf=>by simp only[lP,bg,bA] at hf;exact .cons _ c _ cs (aU.nb s hx hf.1) (aM.nb s hs hf.2)
end
def bN.still(s:bN K G ok w0 h w)(hG:∀g cs,G g=aa cs->bg 0 0 0 cs=ai):bN (K.still w) G ok w ⟨[],[],0,[]⟩ w:=by
 refine⟨Below.refl _ _,aJ _,λg j c hc=>hc,λg cs hg=>?_,rfl,λb b' g hb=>by simp[aP.still] at hb,λb g cs hb=>by simp[aP.still] at hb,rfl,λb b' g hb=>by simp[aP.still] at hb,λl g r hl=>by simp[aP.still] at hl,rfl,λt ht=>?_,λt t' ht=>?_,λr hr=>by simp[aP.still] at hr,rfl⟩
 ·obtain⟨cells,q1,q2⟩:=s.eG g cs hg;exact⟨cells,aM.mn (K1:=K) (K2:=K.still w) (HI s) q1 (hG g cs hg),λj c hj=>s.ic _ _ _ (q2 j c hj)⟩
 ·simp[alive] at ht
 ·simp[alive] at ht
def Jc(z:Nat)(R:Rec)(g:bq)(args:List AV)(h:ao):Option (AV × ao):=
 if bg 0 0 0 (lP z h args)=ai then
  match R.call g (lP z h args) ⟨[],[],0,[]⟩ with
  |some (.ret (.v y),_)=>aa (.v y,h)
  |_=>au
 else au
def afE{aK:bq->Option (List AV->ao->Option (AV × ao))}(hp:Prog P)(hG:∀g cs,G g=aa cs->bg 0 0 0 cs=ai)(oA:∀V g p,aK g=aa p->sP P G V g p){g:bq}(gG:∃fn,P.funcs[g]?=aa fn/\fn.body.isSome=ai)(V:World):
 sP P G V g (Jc z (whole P G aK) g):=by
 refine⟨gG,λargs h x h' hx K w fa hv hs cs=>?_⟩;unfold Jc at hx;split at hx
 ·rename_i hf;split at hx
  ·rename_i y h2 hc;injection hx with hx;injection hx with VV rY;subst VV;subst rY;obtain⟨-,Gw⟩:=(QV hp (oA w)).call g _ _ _ _ hc;have s0:=bN.still hs hG;obtain⟨K1,w',fr,le,s1,cd,wP,v,qi,eC⟩:=Gw (K.still w) w fa (aM.nb hs hv hf) s0 cs;have hb:Below w.heap.size w w':=(by have:=s1.cZ;rwa [le.base] at this);refine⟨.returned v,w',fr,⟨v,_,rfl,aP.OV hs,?_,bN.sees hs hb⟩,cd,wP,eC⟩;cases qi with|v _ q=>exact .v _ q
  ·cases hx
 ·cases hx
def Am(z:Nat)(R:Rec)(L M:List bq)(g:bq):Option (List AV->ao->Option (AV × ao)):=if L.contains g=ai then aa (C8 R g) else if M.contains g=ai then aa (Jc z R g) else au
def aiT{aK:bq->Option (List AV->ao->Option (AV × ao))}(hp:Prog P)(hG:∀g cs,G g=aa cs->bg 0 0 0 cs=ai)(oA:∀V g p,aK g=aa p->sP P G V g p){L M:List bq}(hL:∀g∈L,∃fn,P.funcs[g]?=aa fn/\fn.body.isSome=ai)(hM:∀g∈M,∃fn,P.funcs[g]?=aa fn/\fn.body.isSome=ai):
 ∀V g p,Am z (whole P G aK) L M g=some p->sP P G V g p:=by
 intro V g p he;unfold Am at he;split at he
 ·rename_i hg;injection he with he;subst he;exact SP hp hG oA (hL g (by simpa using hg)) V
 ·split at he
  ·rename_i hg;injection he with he;subst he;exact afE hp hG oA (hM g (by simpa using hg)) V
  ·cases he
def iX{R:Rec}{L M:List bq}{g:bq}{args dL:List AV}{x y:AV}{h1:ao}(hg:L.contains g=ai)(ha:cA args=dL)(hf:bg 0 0 0 dL=ai)(hc:R.call g dL ⟨[],[],0,[]⟩=aa (.ret y,h1))(hy:gJ h1 y=x)(hx:aW 0 0 0 x=ai):
 ∀h,(whole P G (Am z R L M)).call g args h=aa (.ret x,h):=by
 intro h;subst ha;subst hy;rw[HU];unfold qK Am;rw[aD hg];simp only[C8,D6,aD hf,hc,aD hx,eX]
def afC{R:Rec}{L M:List bq}{g:bq}{args dL:List AV}{y:Value}{h h1:ao}(hg:L.contains g=ay)(hm:M.contains g=ai)(ha:lP z h args=dL)(hf:bg 0 0 0 dL=ai)(hc:R.call g dL ⟨[],[],0,[]⟩=aa (.ret (.v y),h1)):
 (whole P G (Am z R L M)).call g args h=aa (.ret (.v y),h):=by
 subst ha;rw[HU];unfold qK Am;rw[aG (by rw[hg];exact Bool.false_ne_true),aD hm];simp only[Jc,aD hf,hc];rfl
end
end Go.AE
end
section
namespace Go.Proofs.YtnfciiiohoafaaaGreatDoor
open Go.AE Go.NT
def Yf:Tryz.f59.results.toList=[.tmp 2]:=aw
def Kv:Tryz.f92.results.toList=[.tmp 2]:=aw
def Yd:Tryz.f42.results.toList=[.tmp 2]:=aw
def aja(n:Int)(h:ao):W4.call 59 [im n] h=aa (.ret (.v (.bool (cE n))),h):=by
 unfold im cE Qi;by_cases h0:0<=n
 ·refine cN rfl abg rfl ?_;have:decide (0<=n)=ai:=by simp[h0]
  exact jq @Yf @vR
 ·refine cN rfl abg rfl ?_;have:decide (0<=n)=ay:=by simp[h0]
  exact jq @Yf @xw
def ajb(h:ao)(x:AV)(l:List Int)(hx:IL x l)(hl:l.length<=9223372036854775807):∃r h',W4.call 92 [x] h=aa (r,h')/\h'=h/\r=.ret (.v (.bool (l.all cE))):=by
 obtain⟨k,s,rfl,hs⟩:=hx;have ks:=aq.mk hs;clear hs;have u23:=eY;have z3:=iQ;have dG:=eT l;refine ec rfl Tryz.func92 rfl ?_;refine bR @Kv ?_;refine de (λm e H=>∃i:Nat,i<=l.length/\m=l.length - i/\aq ((l.take i).all cE=ai)/\e.get 0=.list k s (ints l)/\e.get 3=.v (.int .i64 (i:Nat))/\e.defers=[]/\H=h) ?_ l.length _ _ ?_;rotate_left 1
 ·refine⟨0,df _,rfl,⟨bG⟩,?_,?_,?_,rfl⟩<;>exact gR
 rintro m e H ⟨i,hi,rfl,ka,g0,g3,hd,rfl⟩;by_cases az:i<l.length
 ·have cK:s=1:=ks.out (by intro q;rw[q] at az;simp at az);subst cK;have ld:=fP (H:=H) (s:=1) az;have hv:l[i]?=aa (al l i):=by rw[a9 az,fx az]
  have ir:(i:Int)<(l.length:Int):=by omega
  have pF:(l.take (i+1)).all cE=cE (al l i):=by rw[gx hv,AI,ka.out];simp
  have kt:=aq.mk (ax pF (ez hv));have c:=aja (al l i) H;unfold im at c;clear hv pF;generalize al l i=n at *
  cases hq:cE n with
  |false=>have kf:aq (l.all cE=ay):=⟨by rw[Re];exact⟨n,kt.out.2,by simp[hq]⟩⟩;rw[hq] at c;clear hq;refine cq @Kv @ck ?_;exact⟨_,_,rfl,rfl,by rw[kf.out]⟩
  |true=>have kt2:aq ((l.take (i+1)).all cE=ai):=⟨by rw[kt.out.1,hq]⟩;rw[hq] at c;clear hq;refine cq @Kv @ck ?_;exact⟨l.length - (i+1),by omega,i+1,by omega,rfl,kt2,by simp⟩
 ·have:i=l.length:=by omega
  subst this;have:=ka.out;rw[gM] at this;have kan:=aq.mk this;clear this;refine bR @Kv ?_;exact⟨_,_,rfl,rfl,by rw[kan.out]⟩
def ad7(h:ao)(x y:AV)(ae:List (List Int))(ag:List Int)(hx:RL x ae)(hy:IL y ag):∃h',W4.call 42 [.agg [x,y]] h=aa (.ret (.v (.int .i64 (bV ae:Nat))),h')/\h'=h.push [x,y]:=by
 obtain⟨k,s,xs,rfl,hs,ff,gI⟩:=hx;have bx:(AV.agg [.list k s (xs.map λa=>[a]),y]).bU=aa [.list k s (xs.map λa=>[a]),y]:=by obtain⟨ky,sy,rfl,-⟩:=hy;rfl
 have l0:=vw (bp h [.list k s (xs.map λa=>[a]),y]);have u23:=eY;have u22:=oR;have z23:=jN;have dG:(xs.map λa=>[a]).length=ae.length:=by rw[bJ];exact ff
 refine ij rfl Tryz.func42 rfl ?_;by_cases h0:ae.length=0
 ·have hq:(ae.length:Int)=0:=by omega
  have hc:bV ae=1:=by unfold bV;rw[aD h0]
  rw[hc];clear h0 gI hs ff hc;refine eg @Yd @bK @eN ?_;exact⟨_,rfl,rfl⟩
 ·have hq:¬((ae.length:Int)=0):=by omega
  obtain⟨a0,jd⟩:∃a,xs[0]?=aa a:=⟨_,a9 ah⟩;obtain⟨r0,iN⟩:∃r,ae[0]?=aa r:=⟨_,a9 ah⟩;have cK:s=1:=hs (by intro q;rw[q] at h0;simp at h0);subst cK;have ld0:=oY (H:=h.push [.list k 1 (xs.map λa=>[a]),y]) (s:=1) jd;obtain⟨ka0,sa0,rfl,um⟩:=gI 0 a0 r0 jd iN;have hc:bV ae=r0.length:=by unfold bV;rw[aG h0,eQ,iN];rfl
  rw[hc];have ej:=eT r0;have FK:(0:Int)<(ae.length:Int):=by omega
  have z0:(0:Int).toNat=0:=rfl;clear h0 gI hs ff hc jd iN um;refine bW @Yd @bK @eN @ck ?_;exact⟨_,rfl,rfl⟩
def S3(x y)(ae)(ag)(hx:RL x ae)(hy:IL y ag):∀h,W4.call 97 [.agg [x,y]] h=aa (.ret (.v (.int .i64 (dn ae ag))),h):=by obtain⟨h1,h2⟩:=hx.qc;obtain⟨h3,h4⟩:=hy.hold;exact cC (L:=L4) (dL:=[.agg [aI x,aI y]]) rfl rfl (by simp[bg,aW,h2,h4]) (adQ (aI x) (aI y) ae ag h1 h3 _) rfl rfl
def IY{b}:gi aj 81 (.ptr (.box b) 0) 0=aa (.ptr (.box b) 0):=aw
def IZ{b}:gi aj 81 (.ptr (.box b) 0) 1=aa (.ptr (.box b) 1):=aw
def OO{H}{b}{x y}(hb:H.boxes[b]?=aa [x,y]):aF aj Gt H 3 (.ptr (.box b) 0)=aa x:=by rw[ma eM hb];rfl
def OP{H}{b}{x y}(hb:H.boxes[b]?=aa [x,y]):aF aj Gt H 3 (.ptr (.box b) 1)=aa y:=by rw[ma eM hb];rfl
def RL.bU{x}{ae}(h:RL x ae):x.bU=aa [x]:=by obtain⟨k,s,xs,rfl,-⟩:=h.form;rfl
def IL.bU{x}{l}(h:IL x l):x.bU=aa [x]:=by obtain⟨k,s,rfl,-⟩:=h;rfl
def As{x y}{ae}{ag}(hx:RL x ae)(hy:IL y ag):(AV.agg [x,y]).bU=aa [x,y]:=by obtain⟨k,s,xs,rfl,-⟩:=hx.form;obtain⟨ky,sy,rfl,-⟩:=hy;rfl
def RL.dN{x}{ae}(h:RL x ae):dN aj 22 x=aa (.v (.int .i64 (ae.length:Nat))):=by obtain⟨k,s,xs,rfl,hl⟩:=h.form;have u22:=oR;unfold Go.AE.dN;rw[u22];simp only[bJ,hl]
def IL.dN{x}{l}(h:IL x l):dN aj 23 x=aa (.v (.int .i64 (l.length:Nat))):=by obtain⟨k,s,rfl,-⟩:=h;have u23:=eY;unfold Go.AE.dN;rw[u23];simp only[eT]
def iT(ae:List (List Int))(ag av:List Int):Int:=if dn ae ag≠0 then dn ae ag else if decide (av.length=bV ae)&&av.all b9 then 0 else 340
def aeD(h:ao)(x y z:AV)(ae:List (List Int))(ag av:List Int)(hx:RL x ae)(hy:IL y ag)(hz:IL z av)(hl:av.length<=1000000):
 ∃r h',W4.call 129 [.agg [x,y],z] h=aa (r,h')/\Ext h h'/\r=.ret (.v (.int .i64 (iT ae ag av))):=by
 have bx:=As hx hy;have c1:=S3 x y ae ag hx hy;obtain⟨_,c2,rfl⟩:=Tb (h.push [x,y]) x y ae ag hx hy;have c3:=IP (pr:=Ei) rfl rfl 168 [] (λn=> !b9 n) ((h.push [x,y]).push [x,y]) z av hz hl (λn _=>aqH n _);have l0:=vx (bp h [x,y]);have ln:=hz.dN;have hp:∀q,q≠0->dn ae ag=q->iT ae ag av=q:=λq h1 h2=>by unfold iT;rw[aD (by rw[h2];exact h1),h2]
 have eV:dn ae ag=0->iT ae ag av=if decide (av.length=bV ae)&&av.all b9 then 0 else 340:=λh2=>by unfold iT;rw[aG (by simp[h2])]
 have kp:=aq.mk (ax hp eV);clear hp eV hx hy hz;rw[Se] at c3;generalize iT ae ag av=res at *
 refine ec rfl Tryz.func129 rfl ?_;by_cases h0:dn ae ag=0
 ·rw[h0] at c1;have k0:=kp.out.2 h0;clear h0;by_cases h1:av.length=bV ae
  ·have hq:decide ((av.length:Int)=((bV ae:Nat):Int))=ai:=cz ah;rw[cz h1,vR] at k0;clear h1;cases h2:av.all b9 with
   |true=>rw[h2] at c3 k0;have kr:=aq.mk k0;clear h2 k0;refine cq @Km @bK ?_;exact⟨_,_,rfl,(Ext.push _ _).trans (Ext.push _ _),by rw[kr.out];rfl⟩
   |false=>rw[h2] at c3 k0;have kr:=aq.mk k0;clear h2 k0;refine cq @Km @bK ?_;exact⟨_,_,rfl,(Ext.push _ _).trans (Ext.push _ _),by rw[kr.out];rfl⟩
  ·have hq:decide ((av.length:Int)=((bV ae:Nat):Int))=ay:=cX ah;rw[cX h1,xw] at k0;have kr:=aq.mk k0;clear h1 k0;refine cq @Km @bK ?_;exact⟨_,_,rfl,(Ext.push _ _).trans (Ext.push _ _),by rw[kr.out];rfl⟩
 ·have kr:=aq.mk (kp.out.1 _ h0 rfl);clear kp c2 c3;generalize dn ae ag=q at *
  refine cq @Km @bK ?_;exact⟨_,_,rfl,Ext.push _ _,by rw[kr.out]⟩
def vK(ae:List (List Int))(p:Int × Int):Bool:=decide (0<=p.1)&&decide (p.1<ae.length)&&cE p.2
def JK(n):IL (.list .tight 1 [[.v (.int .i64 n)]]) [n]:=⟨.tight,1,rfl,λ_=>rfl⟩
def alL(h:ao)(x y:AV)(ae:List (List Int))(ag:List Int)(hx:RL x ae)(hy:IL y ag)(a v:Int):
 ∃r h',W4.call 130 [.agg [x,y],.agg [im a,im v]] h=aa (r,h')/\Ext h h'/\r=.ret (.v (.bool (vK ae (a,v)))):=by
 have bx:=As hx hy;have b2:(AV.agg [im a,im v]).bU=aa [im a,im v]:=rfl;have l0:aF aj Gt ((h.push [x,y]).push [im a,im v]) 22 (.ptr (.box h.boxes.length) 0)=aa x:=vw (aZ (bp h [x,y]));have l1:=OO (bp (h.push [x,y]) [im a,im v]);have l2:=OP (bp (h.push [x,y]) [im a,im v]);have c:=WR (.list .tight 1 [[.v (.int .i64 v)]]) [v] (JK v) bG ((h.push [x,y]).push [im a,im v]);rw[(bG:[v].all cE=cE v)] at c;have bl:=rC v;have ln:=hx.dN;clear hx hy;unfold vK;simp only;refine ec rfl Tryz.func130 rfl ?_;unfold im at *
 by_cases h1:0<=a
 ·have d1:decide (0<=a)=ai:=cz h1;by_cases h2:a<ae.length
  ·have d2:decide (a<(ae.length:Int))=ai:=cz h2;rw[d1,d2];clear h1 h2;refine bW @PX @bK @eN (ax @IY @IZ) ?_;exact⟨_,_,rfl,(Ext.push _ _).trans (Ext.push _ _),rfl⟩
  ·have d2:decide (a<(ae.length:Int))=ay:=cX h2;rw[d1,d2];clear h1 h2;refine bW @PX @bK @eN (ax @IY @IZ) ?_;exact⟨_,_,rfl,(Ext.push _ _).trans (Ext.push _ _),rfl⟩
 ·have d1:decide (0<=a)=ay:=cX h1;rw[d1];clear h1;refine bW @PX @bK @eN (ax @IY @IZ) ?_;exact⟨_,_,rfl,(Ext.push _ _).trans (Ext.push _ _),rfl⟩
def afP(bh b)(k)(hb:b.length<=1099511620000)(ht:bh.length<=1099511620000):∀h,W3.call 78 [.v (.string (bs bh)),.list k 1 (aX b)] h=aa (.ret (im (nh (fZ bh b):Nat)),h):=
 cC (L:=L3) (dL:=[.v (.string (bs bh)),.list (ct k) 1 (aX b)]) rfl (by rw[cA,cA,aI.eq_1,qP];rfl) (by simp[bg,aW,fJ,kC]) (afO bh b _ hb ht _) rfl rfl
def Ud(bh b)(k)(hb:b.length<=1099511620000)(ht:bh.length<=1099511620000):∀h,W4.call 78 [.v (.string (bs bh)),.list k 1 (aX b)] h=aa (.ret (im (nh (fZ bh b):Nat)),h):=
 cC (L:=L4) (dL:=[.v (.string (bs bh)),.list (ct k) 1 (aX b)]) rfl (by rw[cA,cA,aI.eq_1,qP];rfl) (by simp[bg,aW,fJ,kC]) (afP bh b _ hb ht _) rfl rfl
def aeW{v}{r}(hv:dh v r)(hd:gg v<=16)(hl:(dM v).length<=1099511600000):∃t,∀h,W3.call 146 [.agg r] h=aa (.ret (.tuple [.list t 1 (aX (dM v)),.v (.int .i64 0)]),h):=by obtain⟨h1,h2⟩:=dh.hold v r hv;obtain⟨t,hc⟩:=aeV h1 hd hl;exact⟨ct t,cC (L:=L3) (dL:=[.agg (cA r)]) rfl rfl (by simpa [bg,aW] using h2) (hc _) rfl (by simp[aW,bg,fJ,kC])⟩
def Tv{v}{r}(hv:dh v r)(hd:gg v<=16)(hl:(dM v).length<=1099511600000):∃t,∀h,W4.call 146 [.agg r] h=aa (.ret (.tuple [.list t 1 (aX (dM v)),.v (.int .i64 0)]),h):=by obtain⟨h1,h2⟩:=dh.hold v r hv;obtain⟨t,hc⟩:=aeW h1 hd hl;exact⟨ct t,cC (L:=L4) (dL:=[.agg (cA r)]) rfl rfl (by simpa [bg,aW] using h2) (hc _) rfl (by simp[aW,bg,fJ,kC])⟩
def Hj:Tryz.f112.results.toList=[.cell 2 96]:=aw
def am2:Tryz.f114.results.toList=[.tmp 4]:=aw
def Kt:Tryz.f79.results.toList=[.tmp 2]:=aw
inductive uL:AV->Vl->Prop
 |int (n:Int) (hn:0<=n/\n<=4611686018427387903):uL (.iface 3 (.v (.int .i64 n))) (.int n)
 |text (k:Tok) (s:Nat) (b:List UInt8) (hs:b≠[]->s=1) (hb:b.length<=1099511620000):uL (.iface 28 (.list k s (aX b))) (.text b)
 |val (v:Vl) (r:List AV) (h:dh v r):uL (.iface 96 (.agg r)) v
def tP(xs:List AV)(vs:List Vl):Prop:=xs.length=vs.length/\∀(i:Nat) x v,xs[i]?=aa x->vs[i]?=aa v->uL x v
def tP.nil:tP [] []:=⟨rfl,λi x v h=>by simp at h⟩
def tP.cons{x}{v}{xs}{vs}(h:uL x v)(hs:tP xs vs):tP (x::xs) (v::vs):=by
 refine⟨by simp[hs.1],λi y w hy hw=>?_⟩;cases i with|zero=>simp at hy hw;subst hy;subst hw;exact h|succ i=>simp at hy hw;exact hs.2 i y w hy hw
def Sl(x):xQ aj (.iface 3 x) 3 ai=aa (.tuple [x,.v (.bool ai)]):=aw
def Sk(x):xQ aj (.iface 28 x) 3 ai=aa (.tuple [.v (.int .i64 0),.v (.bool ay)]):=aw
def Sj(x):xQ aj (.iface 28 x) 28 ai=aa (.tuple [x,.v (.bool ai)]):=aw
def ab6(x):xQ aj (.iface 96 x) 3 ai=aa (.tuple [.v (.int .i64 0),.v (.bool ay)]):=aw
def ab5(x):xQ aj (.iface 96 x) 28 ai=aa (.tuple [.list .nil 0 [],.v (.bool ay)]):=aw
def ab7(x):xQ aj (.iface 96 x) 96 ai=aa (.tuple [x,.v (.bool ai)]):=aw
def MA{k}{s}{b}(hs:b≠[]->s=1)(h):mY aj h 28 9 (.list k s (aX b))=aa (.v (.string (bs b)),h):=by
 have h1:aj.underlying 9=aa .string:=Tryz.underlying9;have h2:aj.underlying 28=aa (.slice 5):=jb;have h3:aj.underlying 5=aa (.int .u8):=Tryz.underlying5;unfold mY;simp only[h1,h2,h3,rowsOf];rw[aD (by
  by_cases hb:b=[]
  ·exact .inr (by rw[hb];rfl)
  ·exact .inl (hs hb))]
 have wI:∀l:List UInt8,bytesOf (aX l)=aa l:=by
  intro l
  induction l with
  |nil=>rfl|cons a l ih=>show(match Go.AE.byteOf (jQ a),bytesOf (aX l) with|some b,aa l=>aa (b::l)|_,_=>au)=_;rw[ih];simp[Go.AE.byteOf,jQ]
 simp only[wI,eX];rfl
def Fz{r}(hr:r.length=4)(hc:(AV.agg r).bU=aa r):gN aj 94 1 [(0,.agg r)]=aa (.list .tight 4 [r]):=by have h1:aj.underlying 94=aa (.slice 96):=qD;unfold gN;simp only[h1,rp,AG];rw[aD ⟨aO,rfl,by decide⟩];simp[Dk,hc,hr]
def V1:∃i,aj.info? 96=aa i/\i.size=4/\i.bytes<=64/\(i.zero.map λz=>z.cells.size)=aa 4:=by
 have h:(match aj.info? 96 with|some i=>jw i.size 4&&LB i.bytes 64&&decide ((i.zero.map λz=>z.cells.size)=aa 4)|none=>ay)=ai:=aw;cases hi:aj.info? 96 with
 |none=>rw[hi] at h;cases h
 |some i=>rw[hi] at h;simp only[bA,decide_eq_true_eq] at h;exact⟨i,rfl,jF h.1.1,lN h.1.2,h.2⟩
def Fo{H}{k}{n0 sz}{es}{r}(hl:es.length<1000000)(hs:es≠[]->sz=4)(h0:es=[]->sz=4∨k=.nil)(hk:dQ n0 H k):
 gd aj H #[94,94] (.list k sz es) (.list .tight 4 [r])=aa (.list (.free H.tn) 4 (es++[r]),H.app k):=by
 obtain⟨i,h1,q2,q3,h4⟩:=V1;have hb:=ry (ah:es.length+1<=1000000) q3;have:=Fq (P:=aj) (h:=H) (n0:=n0) (k:=k) (sz:=sz) (es:=es) (new:=[r]) (x:=.list .tight 4 [r]) (t1:=94) qD (.inl ⟨96,qD⟩) h1 ah (by rw[q2];exact h4) (by rw[q2];rfl) bG (by simp;omega) (by simp;omega) (by
  rw[q2];by_cases he:es=[]
  ·rcases h0 he with q|q
   ·exact .inl q
   ·exact .inr ⟨he,q⟩
  ·exact .inl (hs he)) hk
 rwa [q2] at this
structure v8(h H:ao)(c:Nat)(vs:List Vl)(t:Tok)(sz:Nat)(ae:List (List AV)):Prop where
 box:H.boxes[c]?=aa (bf 3 0 [] t sz ae)
 can:dQ h.tn H t
 ok:dj H=ai
 ext:Ext h H
 out:h.boxes.length<=c
 rel:pq vs ae
 four:ae≠[]->sz=4
 nil:ae=[]->sz=4∨t=.nil
 fit:iU 0 0 0 ae=ai
def TL:∀(ae:List (List AV)) (r:List AV),iU 0 0 0 ae=ai->bg 0 0 0 r=ai->iU 0 0 0 (ae++[r])=ai
 | [],r,_,h=>by rw[jZ,iU,h];rfl
 |a::ae,r,h1,h2=>by rw[iU,bA] at h1;rw[jO,iU,h1.1,TL ae r h1.2 h2];rfl
def v8.push{h H}{c}{vs}{t}{sz}{ae}(g:v8 h H c vs t sz ae)(cs):v8 h (H.push cs) c vs t sz ae:=
 ⟨aZ g.box,by rw[zn];exact g.can,g.ok,g.ext.trans (.push _ _),g.out,g.rel,g.four,g.nil,g.fit⟩
def v8.put{h H}{c}{vs}{t}{sz}{ae}(g:v8 h H c vs t sz ae){v}{r}(hv:dh v r)(hf:bg 0 0 0 r=ai):
 v8 h ((H.app t).put c (bf 3 0 [] (.free H.tn) 4 (ae++[r]))) c (vs++[v]) (.free H.tn) 4 (ae++[r]):=by
 have hc:=(aQ.1 g.box).1;have gr:=Grown.one g.can g.ok g.ext.tn;refine⟨ey (by rw[eS];exact hc),by rw[A3];exact gr.can,gr.ok,(gr.ext g.ext (aJ _)).fI g.out _,g.out,⟨by simp[g.rel.1],λi w x hw hx=>?_⟩,λ_=>rfl,λ_=>.inl rfl,TL _ _ g.fit hf⟩;rcases dT i ae.length with az|eo
 ·rw[ru az] at hx;rw[ru (by rw[<-g.rel.1];exact az)] at hw;exact g.rel.2 i w x hw hx
 ·have:=(aQ.1 hx).1;rw[du] at this;have he:i=ae.length:=by simp at this;omega
  subst he;rw[EU] at hx;rw[g.rel.1,EU] at hw;injection hx with hx;injection hw with hw;subst hx;subst hw;exact hv
def HJ{H}{c}{t t2}{sz sz2}{ae rows2}(hb:H.boxes[c]?=aa (bf 3 0 [] t sz ae)):b8 aj H 94 (.ptr (.box c) 3) (.list t2 sz2 rows2)=aa (H.put c (bf 3 0 [] t2 sz2 rows2)):=
 fw (off:=3) (cs:=bf 3 0 [] t sz ae) (xs:=[.list t2 sz2 rows2]) rfl aw hb rfl (aJ 4)
def ape{H:ao}:b8 aj (H.push (bf 0 0 [] .nil 0 [])) 3 (.ptr (.box H.boxes.length) 0) (.v (.int .i64 3))=aa (H.push (bf 3 0 [] .nil 0 [])):=by rw[fw (off:=0) (cs:=bf 0 0 [] .nil 0 []) (xs:=[.v (.int .i64 3)]) rfl iQ (bp _ _) rfl aO];congr 1;exact ss _ _ _
def Wc{H}{xs:List AV}{i s}{x}(h:xs[i]?=aa x):aF aj Gt H 20 (.elem s (xs.map λa=>[a]) i 0)=aa x:=by rw[r9 aw (row:=[x]) (by rw[eR,h];rfl)];rfl
def Zc:dm aj 20=aa 1:=aw
def uL.adG{x}{v}(h:uL x v):(∃n,x=.iface 3 (.v (.int .i64 n))/\v=.int n/\0<=n/\n<=4611686018427387903)∨(∃k s b,x=.iface 28 (.list k s (aX b))/\v=.text b/\(b≠[]->s=1)/\b.length<=1099511620000)∨∃r,x=.iface 96 (.agg r)/\dh v r:=by
 cases h with|int n hn=>exact .inl ⟨n,rfl,rfl,hn.1,hn.2⟩|text k s b hs hb=>exact .inr (.inl ⟨k,s,b,rfl,rfl,hs,hb⟩)|val v r h=>exact .inr (.inr ⟨r,rfl,h⟩)
def OY(h:ao)(bD:dj h=ai)(k:Tok)(s:Nat)(xs:List AV)(vs:List Vl)(hr:tP xs vs)(hs:xs≠[]->s=1)(hl:xs.length<=1000)(hf:∀a∈xs,aW 0 0 0 a=ai):
 ∃r h',W4.call 112 [.list k s (xs.map λa=>[a])] h=aa (r,h')/\Ext h h'/\∃t sz ae,r=.ret (.agg (bf 3 0 [] t sz ae))/\dh (.list vs) (bf 3 0 [] t sz ae)/\iU 0 0 0 ae=ai/\(xs.length=0->t=.nil/\sz=0/\ae=[]):=by
 have kr:=aq.mk (ax hr (ax hs hf));clear hr hs hf;have z:=AG;have u180:=abh;have u94:=qD;have z20:=Zc;have dG:(xs.map λa=>[a]).length=xs.length:=bJ _;have G0:v8 h (h.push (bf 3 0 [] .nil 0 [])) h.boxes.length (vs.take 0) .nil 0 []:=⟨bp _ _,.inl rfl,bD,.push _ _,aJ _,⟨rfl,λi v r q=>by simp at q⟩,λq=>absurd rfl q,λ_=>.inr rfl,rfl⟩;refine ec rfl Tryz.func112 rfl ?_;refine bW @Hj @fU @ape @kV ?_;refine bM.gen λe0 aV cY eV eO=>?_;have f2:e0.get 2=.ptr (.box h.boxes.length) 0:=by rw[aV];exact gS
 have f9:e0.get 9=.list k s (xs.map λa=>[a]):=by rw[aV];exact gS
 have f10:e0.get 10=.v (.int .i64 (xs.length:Nat)):=by rw[aV];exact gS
 have f11:e0.get 11=.v (.int .i64 (0:Nat)):=by rw[aV];exact gR
 have fd:e0.defers=[]:=by rw[cY];exact gS
 clear aV cY eV eO;refine de (λm e H=>∃(i:Nat) (t:Tok) (sz:Nat) (ae:List (List AV)),i<=xs.length/\m=xs.length - i/\aq (v8 h H h.boxes.length (vs.take i) t sz ae)/\aq (i=0->t=.nil/\sz=0/\ae=[])/\e.get 2=.ptr (.box h.boxes.length) 0/\e.get 9=.list k s (xs.map λa=>[a])/\e.get 10=.v (.int .i64 (xs.length:Nat))/\e.get 11=.v (.int .i64 (i:Nat))/\e.defers=[]) ?_ xs.length _ _ ?_;rotate_left 1
 ·exact⟨0,.nil,0,[],df _,rfl,⟨G0⟩,⟨λ_=>⟨rfl,rfl,rfl⟩⟩,f2,f9,f10,f11,fd⟩
 clear f2 f9 f10 f11 fd G0;rintro m e H ⟨i,t,sz,ae,hi,rfl,kG,kN,g2,g9,g10,g11,hd⟩;by_cases az:i<xs.length
 ·have cK:s=1:=kr.out.2.1 (by intro q;rw[q] at az;simp at az);subst cK;obtain⟨x,hx⟩:∃x,xs[i]?=aa x:=⟨_,a9 az⟩;obtain⟨v,hv⟩:∃v,vs[i]?=aa v:=⟨_,a9 (by have:=kr.out.1.1;omega)⟩;have Af:=kr.out.1.2 i x v hx hv;have zO:=kr.out.2.2 x (ez hx);have ld:=Wc (H:=H) (s:=1) hx;have kst:=aq.mk (gx hv);have ej:ae.length<1000000:=by have:=kG.out.rel.1;rw[fb] at this;omega
  have ir:(i:Int)<(xs.length:Int):=by omega
  clear hx hv;rcases Af.adG with⟨n,rfl,rfl,iW,tF⟩|⟨kb,sb,b,rfl,rfl,jI,fG⟩|⟨r,rfl,jU⟩
  ·have jU:dh (.int n) (bf 1 n [] .nil 0 []):=.int n ⟨iW,tF⟩;have kG2:=aq.mk (kG.out.put jU rfl);have l3:=oZ kG.out.box;have ap:=Fo (r:=bf 1 n [] .nil 0 []) ej kG.out.four kG.out.nil kG.out.can;have bl:=Fz (r:=bf 1 n [] .nil 0 []) rfl rfl;have st:=HJ (H:=H.app t) (t2:=.free H.tn) (sz2:=4) (rows2:=ae++[bf 1 n [] .nil 0 []]) (by rw[eS];exact kG.out.box);rw[<-kst.out] at kG2;clear jU iW tF Af zO;refine bW @Hj @fU @ck (ax @Sl @Mf) ?_;exact⟨xs.length - (i+1),by omega,i+1,_,_,_,by omega,rfl,kG2,⟨λq=>absurd q (RA _)⟩,by simp⟩
  ·have jU:dh (.text b) (bf 2 0 b .nil 0 []):=.text b fG;have kG2:=aq.mk (kG.out.put jU rfl);have l3:=oZ kG.out.box;have ap:=Fo (r:=bf 2 0 b .nil 0 []) ej kG.out.four kG.out.nil kG.out.can;have bl:=Fz (r:=bf 2 0 b .nil 0 []) rfl rfl;have cv:=MA (k:=kb) jI;have st:=HJ (H:=H.app t) (t2:=.free H.tn) (sz2:=4) (rows2:=ae++[bf 2 0 b .nil 0 []]) (by rw[eS];exact kG.out.box);rw[<-kst.out] at kG2;clear jU jI fG Af zO;refine bW @Hj @fU @ck (ax @Sk (ax @Sj @Mg)) ?_;exact⟨xs.length - (i+1),by omega,i+1,_,_,_,by omega,rfl,kG2,⟨λq=>absurd q (RA _)⟩,by simp⟩
  ·have wP:bg 0 0 0 r=ai:=(by simpa [aW] using zO);have kG1:=kG.out.push r;have kG2:=aq.mk (kG1.put jU wP);have l3:=oZ kG1.box;have l4:=rZ jU.len (bp H r);have ap:=Fo (r:=r) ej kG1.four kG1.nil kG1.can;have bl:=Fz (r:=r) jU.len jU.cells;have st0:=QH (H:=H) jU;have st:=HJ (H:=(H.push r).app t) (t2:=.free (H.push r).tn) (sz2:=4) (rows2:=ae++[r]) (by rw[eS];exact kG1.box);rw[<-kst.out] at kG2;clear jU Af kG1 zO wP;refine bW @Hj @fU @ck (ax @ab6 (ax @ab5 @ab7)) ?_;exact⟨xs.length - (i+1),by omega,i+1,_,_,_,by omega,rfl,kG2,⟨λq=>absurd q (RA _)⟩,by simp⟩
 ·have jz:i=xs.length:=by omega
  subst jz;have hG:=kG.out;rw[fK (by rw[kr.out.1.1];exact aJ _)] at hG;have hv:dh (.list vs) (bf 3 0 [] t sz ae):=.list vs t sz ae hG.rel.1 hG.four (by have:=hG.rel.1;have:=kr.out.1.1;omega) hG.rel.2;have ld:=rZ hv.len hG.box;have st:b8 aj H 96 (.ptr (.box h.boxes.length) 0) (.agg (bf 3 0 [] t sz ae))=aa H:=by rw[fw kV rp hG.box rfl (aJ 4),xn rfl];rw[nt hG.box]
  have kv:=aq.mk (ax hv (ax hG.ext hG.fit));clear hv hG;refine bR @Hj ?_;exact⟨_,_,rfl,kv.out.2.1,_,_,_,rfl,kv.out.1,kv.out.2.2,kN.out⟩
def bd3:mF aj 96 [(0,.v (.int .i64 3))]=aa (.agg (bf 3 0 [] .nil 0 [])):=aw
inductive xJ:AV->Vl->Prop
 |int (n:Int) (hn:0<=n/\n<=4611686018427387903):xJ (.iface 3 (.v (.int .i64 n))) (.int n)
 |text (k:Tok) (s:Nat) (b:List UInt8) (hs:b≠[]->s=1) (hb:b.length<=1099511620000):xJ (.iface 28 (.list k s (aX b))) (.text b)
def vW(xs:List AV)(vs:List Vl):Prop:=xs.length=vs.length/\∀(i:Nat) x v,xs[i]?=aa x->vs[i]?=aa v->xJ x v
def vW.nil:vW [] []:=⟨rfl,λi x v h=>by simp at h⟩
def vW.cons{x}{v}{xs}{vs}(h:xJ x v)(hs:vW xs vs):vW (x::xs) (v::vs):=by
 refine⟨by simp[hs.1],λi y w hy hw=>?_⟩;cases i with|zero=>simp at hy hw;subst hy;subst hw;exact h|succ i=>simp at hy hw;exact hs.2 i y w hy hw
def xJ.adF{x}{v}(h:xJ x v):(∃n,x=.iface 3 (.v (.int .i64 n))/\v=.int n/\0<=n/\n<=4611686018427387903)∨(∃k s b,x=.iface 28 (.list k s (aX b))/\v=.text b/\(b≠[]->s=1)/\b.length<=1099511620000):=by
 cases h with|int n hn=>exact .inl ⟨n,rfl,rfl,hn.1,hn.2⟩|text k s b hs hb=>exact .inr ⟨k,s,b,rfl,rfl,hs,hb⟩
def ais(h:ao)(bD:dj h=ai)(k:Tok)(s:Nat)(xs:List AV)(vs:List Vl)(hr:vW xs vs)(hs:xs≠[]->s=1)(hl:xs.length<=1000)(zL:gg (.list vs)<=16)(zM:(dM (.list vs)).length<=1099511600000):
 ∃r h',W4.call 79 [.list k s (xs.map λa=>[a])] h=aa (r,h')/\∃t,r=.ret (.list t 1 (aX (dM (.list vs)))):=by
 have kr:=aq.mk (ax hr (ax hs (ax zL zM)));clear hr hs zL zM;have z:=AG;have u180:=abh;have u94:=qD;have z20:=Zc;have dG:(xs.map λa=>[a]).length=xs.length:=bJ _;have G0:v8 h (h.push (bf 3 0 [] .nil 0 [])) h.boxes.length (vs.take 0) .nil 0 []:=⟨bp _ _,.inl rfl,bD,.push _ _,aJ _,⟨rfl,λi v r q=>by simp at q⟩,λq=>absurd rfl q,λ_=>.inr rfl,rfl⟩;refine ec rfl Tryz.func79 rfl ?_;refine bW @Kt @fU @bd3 (ax @KK @kV) ?_;refine bM.gen λe0 aV cY eV eO=>?_;have f2:e0.get 3=.ptr (.box h.boxes.length) 0:=by rw[aV];exact gS
 have f9:e0.get 11=.list k s (xs.map λa=>[a]):=by rw[aV];exact gS
 have f10:e0.get 12=.v (.int .i64 (xs.length:Nat)):=by rw[aV];exact gS
 have f11:e0.get 13=.v (.int .i64 (0:Nat)):=by rw[aV];exact gR
 have fd:e0.defers=[]:=by rw[cY];exact gS
 clear aV cY eV eO;refine de (λm e H=>∃(i:Nat) (t:Tok) (sz:Nat) (ae:List (List AV)),i<=xs.length/\m=xs.length - i/\aq (v8 h H h.boxes.length (vs.take i) t sz ae)/\e.get 3=.ptr (.box h.boxes.length) 0/\e.get 11=.list k s (xs.map λa=>[a])/\e.get 12=.v (.int .i64 (xs.length:Nat))/\e.get 13=.v (.int .i64 (i:Nat))/\e.defers=[]) ?_ xs.length _ _ ?_;rotate_left 1
 ·exact⟨0,.nil,0,[],df _,rfl,⟨G0⟩,f2,f9,f10,f11,fd⟩
 clear f2 f9 f10 f11 fd G0;rintro m e H ⟨i,t,sz,ae,hi,rfl,kG,g3,g11,g12,g13,hd⟩;by_cases az:i<xs.length
 ·have cK:s=1:=kr.out.2.1 (by intro q;rw[q] at az;simp at az);subst cK;obtain⟨x,hx⟩:∃x,xs[i]?=aa x:=⟨_,a9 az⟩;obtain⟨v,hv⟩:∃v,vs[i]?=aa v:=⟨_,a9 (by have:=kr.out.1.1;omega)⟩;have Af:=kr.out.1.2 i x v hx hv;have ld:=Wc (H:=H) (s:=1) hx;have kst:=aq.mk (gx hv);have ej:ae.length<1000000:=by have:=kG.out.rel.1;rw[fb] at this;omega
  have ir:(i:Int)<(xs.length:Int):=by omega
  clear hx hv;rcases Af.adF with⟨n,rfl,rfl,iW,tF⟩|⟨kb,sb,b,rfl,rfl,jI,fG⟩
  ·have jU:dh (.int n) (bf 1 n [] .nil 0 []):=.int n ⟨iW,tF⟩;have kG2:=aq.mk (kG.out.put jU rfl);have l3:=oZ kG.out.box;have ap:=Fo (r:=bf 1 n [] .nil 0 []) ej kG.out.four kG.out.nil kG.out.can;have bl:=Fz (r:=bf 1 n [] .nil 0 []) rfl rfl;have st:=HJ (H:=H.app t) (t2:=.free H.tn) (sz2:=4) (rows2:=ae++[bf 1 n [] .nil 0 []]) (by rw[eS];exact kG.out.box);rw[<-kst.out] at kG2;clear jU iW tF Af;refine bW @Kt @fU @ck (ax @Sl @Mf) ?_;exact⟨xs.length - (i+1),by omega,i+1,_,_,_,by omega,rfl,kG2,by simp⟩
  ·have jU:dh (.text b) (bf 2 0 b .nil 0 []):=.text b fG;have kG2:=aq.mk (kG.out.put jU rfl);have l3:=oZ kG.out.box;have ap:=Fo (r:=bf 2 0 b .nil 0 []) ej kG.out.four kG.out.nil kG.out.can;have bl:=Fz (r:=bf 2 0 b .nil 0 []) rfl rfl;have cv:=MA (k:=kb) jI;have st:=HJ (H:=H.app t) (t2:=.free H.tn) (sz2:=4) (rows2:=ae++[bf 2 0 b .nil 0 []]) (by rw[eS];exact kG.out.box);rw[<-kst.out] at kG2;clear jU jI fG Af;refine bW @Kt @fU @ck (ax @Sk (ax @Sj @Mg)) ?_;exact⟨xs.length - (i+1),by omega,i+1,_,_,_,by omega,rfl,kG2,by simp⟩
 ·have jz:i=xs.length:=by omega
  subst jz;have hG:=kG.out;rw[fK (by rw[kr.out.1.1];exact aJ _)] at hG;have hv:dh (.list vs) (bf 3 0 [] t sz ae):=.list vs t sz ae hG.rel.1 hG.four (by have:=hG.rel.1;have:=kr.out.1.1;omega) hG.rel.2;have ld:=rZ hv.len hG.box;obtain⟨te,ce⟩:=Tv hv kr.out.2.2.1 kr.out.2.2.2;clear hv hG;refine bR @Kt ?_;exact⟨_,_,rfl,_,rfl⟩
def agq(h:ao)(bD:dj h=ai)(bh:List UInt8)(k:Tok)(s:Nat)(xs:List AV)(vs:List Vl)(hr:tP xs vs)(hs:xs≠[]->s=1)(hl:xs.length<=1000)(hf:∀a∈xs,aW 0 0 0 a=ai)(ht:bh.length<=1099511620000)(zL:gg (.list vs)<=16)(zM:(dM (.list vs)).length<=1099511600000):
 ∃r h',W4.call 114 [.v (.string (bs bh)),.list k s (xs.map λa=>[a])] h=aa (r,h')/\r=.ret (im ((tq bh (.list vs):Nat):Int)):=by
 obtain⟨_,h1,c1,-,t,sz,ae,rfl,hv,-,-⟩:=OY h bD k s xs vs hr hs hl hf;obtain⟨te,ce⟩:=Tv hv zL zM;have cg:=Ud bh (dM (.list vs)) te ah ht;have e:nh (fZ bh (dM (.list vs)))=tq bh (.list vs):=rfl;rw[e] at cg;generalize tq bh (.list vs)=n at *
 unfold im at *
 clear hr hs hl hv hf e;refine ec rfl Tryz.func114 rfl ?_;refine bR @am2 ?_;exact⟨_,_,rfl,rfl⟩
def af2(n:Nat)(h0:0<n)(hn:n<=1099511627776)(H:ao):W4.call 158 [.list .nil 0 [],.v (.int .i64 (n:Nat))] H=aa (.ret (.arr H.boxes.length 0 0 n),H.push (bm n [im 0]).flatten):=by
 have u23:=eY;have a:=ace (H:=H) h0 hn;have e1:IntKind.i64.wrap ((0:Int) - 0)=0:=by rfl
 have e2:IntKind.i64.wrap (((n:Nat):Int) - 0)=((n:Nat):Int):=by rw[CL,fh ah ah]
 have s2:ie aj 23 (.arr H.boxes.length 0 n n) au (aa (.v (.int .i64 (0:Nat)))) au=aa (.arr H.boxes.length 0 0 n):=Yy u23 iQ aO aO ah h0;have s2:ie aj 23 (.arr H.boxes.length 0 n n) au (aa (.v (.int .i64 0))) au=aa (.arr H.boxes.length 0 0 n):=s2;have az:(0:Int)<(n:Nat):=by omega
 refine cN rfl aa9 rfl ?_;exact Jg @XW @FD @SR (ax @Yz (ax @jP.{0} (ax @tU @CL)))
def af1(H:ao):W4.call 158 [.list .nil 0 [],.v (.int .i64 (0:Nat))] H=aa (.ret (.list .nil 0 []),H):=by
 have u23:=eY;refine cN rfl aa9 rfl ?_;have e1:IntKind.i64.wrap ((0:Int) - 0)=0:=by rfl
 have e2:IntKind.i64.wrap (((0:Nat):Int) - 0)=0:=by rfl
 exact Jg @XW @FD @SR (ax @Yz (ax @jP.{0} (ax @tU @CL)))
def aed(k:Tok)(xs:List AV)(dc:List (List (List AV)))(hl:xs.length=dc.length)(H:ao)(hs:∀(i:Nat) x rs,xs[i]?=aa x->dc[i]?=aa rs->dO 1 H x rs)(hb:dc.flatten.length<=1099511627776)(ff:xs.length<=1000):
 ∃r H',W4.call 109 [.list k 1 (xs.map λx=>[x])] H=aa (r,H')/\∃y,r=.ret y/\Ext H H'/\dO 1 H' y dc.flatten:=by
 have u23:=eY;have u22:=oR;have aE:=abJ;have sE:=jN;have hr:∀(i:Nat) x,xs[i]?=aa x->(xs.map λx=>[x])[i]?=aa [x]:=λi x hx=>by rw[eR,hx];rfl
 have eC:∀i,(dc.take i).flatten.length<=1099511627776:=λi=>by
  refine Nat.le_trans ?_ hb
  conv=>rhs;rw[<-xI i dc,qA,du]
  omega
 have lD:∀(i:Nat) rs,dc[i]?=aa rs->(dc.take (i+1)).flatten=(dc.take i).flatten++rs:=λi rs hi=>by rw[gx hi,qA];simp
 have kS:=aq.mk hs;have kl:=aq.mk hl;have kr:=aq.mk hr;have kst:=aq.mk lD;have kle:=aq.mk eC;have mL:(xs.map λx=>[x]).length=xs.length:=by simp
 clear hs hr lD eC hl;generalize hM:(xs.map λx=>[x])=M at *
 refine ec rfl Tryz.func109 rfl ?_;refine bR @At ?_;refine de (λm e h'=>∃i:Nat,i<=xs.length/\m=xs.length - i/\e.get 0=.list k 1 M/\e.get 9=.list k 1 M/\e.get 10=.v (.int .i64 (xs.length:Nat))/\e.get 11=.v (.int .i64 i)/\e.get 3=.v (.int .i64 ((dc.take i).flatten.length:Nat))/\e.get 2=.list .nil 0 []/\e.defers=[]/\h'=H) ?_ xs.length _ _ ?_;rotate_left 1
 ·refine⟨0,df _,rfl,?_,?_,?_,?_,?_,?_,?_,rfl⟩<;>(first|assumption|(simp only[gW,reduceIte,aY,aR,mL]<;>rfl))
 rintro m e h' ⟨i,hi,rfl,g0,g9,g10,g11,g3,g2,hd,rfl⟩;by_cases az:i<xs.length
 ·obtain⟨x,hx⟩:∃x,xs[i]?=aa x:=⟨_,a9 az⟩;obtain⟨rs,jh⟩:∃rs,dc[i]?=aa rs:=⟨_,a9 (by have:=kl.out;omega)⟩;have s1:=kS.out i x rs hx jh;have ls:=s1.len u23;have vj:=kr.out i x hx;have BC:(i:Int)<(M.length:Int):=by omega
  have q:=kst.out i rs jh;have q1:=kle.out (i+1);rw[q,du] at q1;have ksum:=aq.mk (show(dc.take (i+1)).flatten.length=(dc.take i).flatten.length+rs.length by rw[q,du]);generalize (dc.take i).flatten.length=n1 at *
  have e1:IntKind.i64.wrap (((n1:Nat):Int)+((rs.length:Nat):Int))=((n1+rs.length:Nat):Int):=by rw[fh ah ah];omega
  have nn:¬(((n1+rs.length:Nat):Int)<0):=by omega
  have ld:aF aj Gt h' 23 (.elem 1 M i 0)=aa x:=by rw[r9 aE vj];rfl
  clear q q1 s1;refine cq @At @ck ?_;exact⟨xs.length - (i+1),by omega,i+1,by omega,rfl,by trivial,by trivial,by trivial,by simp,by rw[ksum.out],by trivial,by trivial,by trivial⟩
 have:i=xs.length:=by omega
 subst this;rw[show dc.take xs.length=dc by rw[kl.out];exact gM] at g3;have hn:=kle.out xs.length;rw[show dc.take xs.length=dc by rw[kl.out];exact gM] at hn;generalize hN:dc.flatten.length=n at *
 rcases Fa n with h0|h0
 ·subst h0;have gn:=af1 h';have nL:dc.flatten=[]:=List.eq_nil_of_length_eq_zero hN;refine bR @At ?_;refine de (λm e H1=>∃i:Nat,i<=xs.length/\m=xs.length - i/\e.get 25=.list k 1 M/\e.get 26=.v (.int .i64 (xs.length:Nat))/\e.get 27=.v (.int .i64 i)/\e.get 6=.list .nil 0 []/\e.defers=[]/\H1=h') ?_ xs.length _ _ ?_;rotate_left 1
  ·refine⟨0,df _,rfl,?_,?_,?_,?_,?_,rfl⟩<;>(first|assumption|(simp only[gW,reduceIte,aY,aR,mL]<;>rfl))
  clear g0 g9 g10 g11 g3 g2 hd gn;rintro m e H1 ⟨i,hi,rfl,g25,g26,g27,g6,hd,rfl⟩;by_cases az:i<xs.length
  ·obtain⟨x,hx⟩:∃x,xs[i]?=aa x:=⟨_,a9 az⟩;obtain⟨rs,jh⟩:∃rs,dc[i]?=aa rs:=⟨_,a9 (by have:=kl.out;omega)⟩;have s1:=kS.out i x rs hx jh;have Om:rs=[]:=by
    have:=ez jh;cases rs with|nil=>rfl|cons a l=>exact absurd (Ls.2 ⟨_,this,ga⟩) (by rw[nL];exact AN)
   subst Om;have an:=abP s1;have vj:=kr.out i x hx;have BC:(i:Int)<(M.length:Int):=(by omega);have ld:aF aj Gt H1 23 (.elem 1 M i 0)=aa x:=(by rw[r9 aE vj];rfl);clear s1;refine cq @At @ck ?_;exact⟨xs.length - (i+1),by omega,i+1,by omega,rfl,by trivial,by trivial,by simp,by trivial,by trivial,by trivial⟩
  ·have:i=xs.length:=(by omega);subst this;refine bR @At ?_;exact⟨_,_,rfl,_,rfl,Ext.refl _,by(try rw[nL]);exact dO.list (λr hr=>by cases hr) (λq=>absurd rfl q)⟩
 ·have gn:=af2 n h0 hn h';refine bR @At ?_;rw[PN];have BR:∀(i:Nat) rs,dc[i]?=aa rs->∀r∈rs,r.length=1:=λi rs hi=>by obtain⟨x,hx⟩:∃x,xs[i]?=aa x:=⟨_,a9 (by rw[kl.out];exact(aQ.1 hi).1)⟩;exact(kS.out i x rs hx hi).1
  have jg:∀i,∀r∈(dc.take i).flatten,r.length=1:=λi r hr=>by obtain⟨rs,h1,h2⟩:=Ls.1 hr;obtain⟨j,hj⟩:=List.mem_iff_getElem?.1 (pS h1);exact BR j rs hj r h2
  have ou:∀i,(dc.take i).flatten.flatten.length=(dc.take i).flatten.length:=λi=>by rw[na (jg i),nY]
  have Gi:∀i,(dc.take i).flatten.length<=n:=λi=>by
   rw[<-hN]
   conv=>rhs;rw[<-xI i dc,qA,du]
   omega
  have kfl:=aq.mk ou;have kmo:=aq.mk Gi;have kr2:=aq.mk jg;clear BR ou Gi jg gn;refine de (λm e H1=>∃i:Nat,i<=xs.length/\m=xs.length - i/\e.get 25=.list k 1 M/\e.get 26=.v (.int .i64 (xs.length:Nat))/\e.get 27=.v (.int .i64 i)/\e.get 6=.arr h'.boxes.length 0 (dc.take i).flatten.length n/\e.defers=[]/\H1.boxes[h'.boxes.length]?=aa ((dc.take i).flatten.flatten++bm (n - (dc.take i).flatten.length) (im 0))/\Ext h' H1) ?_ xs.length _ _ ?_;rotate_left 1
  ·refine⟨0,df _,rfl,?_,?_,?_,?_,?_,?_,Ext.push _ _⟩<;>(first|assumption|exact bp _ _|(simp only[gW,reduceIte,aY,aR,mL]<;>rfl))
  clear g0 g9 g10 g11 g3 g2 hd;rintro m e H1 ⟨i,hi,rfl,g25,g26,g27,g6,hd,hB,hX⟩;by_cases az:i<xs.length
  ·obtain⟨x,hx⟩:∃x,xs[i]?=aa x:=⟨_,a9 az⟩;obtain⟨rs,jh⟩:∃rs,dc[i]?=aa rs:=⟨_,a9 (by have:=kl.out;omega)⟩;have s1:=(kS.out i x rs hx jh).ext hX;have q:=kst.out i rs jh;have m1:=kmo.out (i+1);have f0:=kfl.out i;have Ab:(dc.take (i+1)).flatten.length=(dc.take i).flatten.length+rs.length:=(by rw[q,du]);rw[Ab] at m1;have On:rs.flatten.length=rs.length:=(by rw[na s1.1,nY]);have ap:=abk s1 hB m1 (by rw[du,List.length_replicate,f0];omega);have uo:eK ((dc.take i).flatten.flatten++bm (n - (dc.take i).flatten.length) (im 0)) (dc.take i).flatten.length rs.flatten=(dc.take (i+1)).flatten.flatten++bm (n - (dc.take (i+1)).flatten.length) (im 0):=(by unfold eK;rw[Is f0,List.drop_append,sK (by rw[f0];omega),jZ,f0,List.drop_replicate,q,qA,du,On];congr 2;omega);rw[uo] at ap;have vj:=kr.out i x hx;have BC:(i:Int)<(M.length:Int):=(by omega);have ld:aF aj Gt H1 23 (.elem 1 M i 0)=aa x:=(by rw[r9 aE vj];rfl);have kX:=aq.mk hX;have nm:=(aQ.1 hB).1;have ks:=aq.mk Ab;clear s1 hX hB uo q f0 Ab;refine cq @At @ck ?_;refine⟨xs.length - (i+1),by omega,i+1,by omega,rfl,by trivial,by trivial,by simp,by rw[ks.out],by trivial,?_,kX.out.fI (aJ _) _⟩;exact ey nm
  ·have:i=xs.length:=(by omega);subst this;have ht:dc.take xs.length=dc:=(by rw[kl.out];exact gM);have f0:=kfl.out xs.length;have jg:=kr2.out xs.length;rw[ht] at hB g6 f0 jg;rw[hN] at hB g6;rw[Nat.sub_self,List.replicate_zero,jv] at hB;have kB:=aq.mk hB;have kX:=aq.mk hX;clear hB hX;refine bR @At ?_;exact⟨_,_,rfl,_,rfl,kX.out,dO.box jg hN.symm kB.out⟩
def L5:List bq:=[28,29,30,42,46,57,59,65,66,69,76,77,78,79,82,92,93,94,97,107,108,109,110,112,115,118,119,120,121,123,129,130,132,135,136,137,138,140,146,172,194,195,196,201]
noncomputable def Ej:bq->Option (List AV->ao->Option (AV × ao)):=Am 4 W4 L5 [114]
noncomputable abbrev W5:=whole aj Gt Ej
def nH:tQ Ej L5:=λg hg=>⟨D6 W4 g,by unfold Ej Am;rw[aD (by simpa using hg)];rfl⟩
section
variable (a b n x:Int)
def Iy:∀h,W5.call 28 [im a,im b] h=aa (.ret (im (cS a b)),h):=iX (L:=L5) rfl rfl rfl (R6 a b _) rfl rfl
def JY:∀h,W5.call 29 [im a,im b] h=aa (.ret (im (db a b)),h):=iX (L:=L5) rfl rfl rfl (WG a b _) rfl rfl
def KV:∀h,W5.call 46 [im x] h=aa (.ret (.v (.bool (b9 x))),h):=iX (L:=L5) rfl rfl rfl (Zm x _) rfl rfl
def Dq:∀h,W5.call 69 [im a,im b] h=aa (.ret (.tuple [im (jy a b),im (nf a b)]),h):=iX (L:=L5) rfl rfl rfl (afV a b _) rfl rfl
def Jf:∀h,W5.call 30 [im a,im n] h=aa (.ret (.tuple [im (eU a n),im (mo a)]),h):=iX (L:=L5) rfl rfl rfl (MX a n _) rfl rfl
def aoe:∀h,W5.call 94 [im x] h=aa (.ret (.v (.bool (b9 x))),h):=iX (L:=L5) rfl rfl rfl (aod x _) rfl rfl
def alv:∀h,W5.call 140 [im a,im b] h=aa (.ret (.tuple [im (jy a b),im (nf a b)]),h):=iX (L:=L5) rfl rfl rfl (alu a b _) rfl rfl
def alC:∀h,W5.call 132 [im a,im n] h=aa (.ret (.tuple [im (eU a n),im (mo a)]),h):=iX (L:=L5) rfl rfl rfl (alB a n _) rfl rfl
def alQ:∀h,W5.call 120 [im n] h=aa (.ret (.agg (bf 1 n [] .nil 0 [])),h):=iX (L:=L5) rfl rfl rfl (alP n _) rfl rfl
end
def GY(x n):∀h,W5.call 57 [im x,im n] h=aa (.ret (im (eU x n)),h):=iX (L:=L5) rfl rfl rfl (aky x n _) rfl rfl
def Xn(x n):∀h,W5.call 77 [im x,im n] h=aa (.ret (im (eU x n)),h):=iX (L:=L5) rfl rfl rfl (akz x n _) rfl rfl
def vE{x y}{ae}{ag}(hx:RL x ae)(hy:IL y ag):RL (aI x) ae/\IL (aI y) ag/\aW 0 0 0 (aI x)=ai/\aW 0 0 0 (aI y)=ai:=
 ⟨hx.qc.1,hy.hold.1,hx.qc.2,hy.hold.2⟩
def S4(x y)(ae)(ag)(hx:RL x ae)(hy:IL y ag):∀h,W5.call 97 [.agg [x,y]] h=aa (.ret (im (dn ae ag)),h):=by obtain⟨h1,h2,h3,h4⟩:=vE hx hy;exact iX (L:=L5) (dL:=[.agg [aI x,aI y]]) rfl rfl (by simp[bg,aW,h3,h4]) (S3 (aI x) (aI y) ae ag h1 h2 _) rfl rfl
def ad6(x y)(ae)(ag)(hx:RL x ae)(hy:IL y ag):∀h,W5.call 108 [.agg [x,y]] h=aa (.ret (im (bV ae:Nat)),h):=by obtain⟨h1,h2,h3,h4⟩:=vE hx hy;obtain⟨h',c,-⟩:=Tb ⟨[],[],0,[]⟩ (aI x) (aI y) ae ag h1 h2;exact iX (L:=L5) (dL:=[.agg [aI x,aI y]]) rfl rfl (by simp[bg,aW,h3,h4]) c rfl rfl
def Tc(x y)(ae)(ag)(hx:RL x ae)(hy:IL y ag):∀h,W5.call 42 [.agg [x,y]] h=aa (.ret (im (bV ae:Nat)),h):=by obtain⟨h1,h2,h3,h4⟩:=vE hx hy;obtain⟨h',c,-⟩:=ad7 ⟨[],[],0,[]⟩ (aI x) (aI y) ae ag h1 h2;exact iX (L:=L5) (dL:=[.agg [aI x,aI y]]) rfl rfl (by simp[bg,aW,h3,h4]) c rfl rfl
def akZ(x y)(ae)(ag)(hx:RL x ae)(hy:IL y ag)(hl:ae.length<=1000000):∀h,W5.call 115 [.agg [x,y]] h=aa (.ret (im (dn ae ag)),h):=by obtain⟨h1,h2,h3,h4⟩:=vE hx hy;obtain⟨r,h',c,-,rfl⟩:=akY ⟨[],[],0,[]⟩ (aI x) (aI y) ae ag h1 h2 hl;exact iX (L:=L5) (dL:=[.agg [aI x,aI y]]) rfl rfl (by simp[bg,aW,h3,h4]) c rfl rfl
def WS(x)(l)(hx:IL x l)(hl:l.length<=1000000):∀h,W5.call 107 [x] h=aa (.ret (.v (.bool (l.all cE))),h):=by obtain⟨h1,h2⟩:=hx.hold;exact iX (L:=L5) (dL:=[aI x]) rfl rfl (by simp[bg,h2]) (WR (aI x) l h1 hl _) rfl rfl
def ajc(x)(l)(hx:IL x l)(hl:l.length<=9223372036854775807):∀h,W5.call 92 [x] h=aa (.ret (.v (.bool (l.all cE))),h):=by obtain⟨h1,h2⟩:=hx.hold;obtain⟨r,h',c,-,rfl⟩:=ajb ⟨[],[],0,[]⟩ (aI x) l h1 hl;exact iX (L:=L5) (dL:=[aI x]) rfl rfl (by simp[bg,h2]) c rfl rfl
def ajX(x)(l)(hx:IL x l)(hl:l.length<=9223372036854775807):∀h,W5.call 93 [x] h=aa (.ret (.v (.bool (fE (-1) l))),h):=by obtain⟨h1,h2⟩:=hx.hold;obtain⟨r,h',c,-,rfl⟩:=ajW ⟨[],[],0,[]⟩ (aI x) l h1 hl;exact iX (L:=L5) (dL:=[aI x]) rfl rfl (by simp[bg,h2]) c rfl rfl
def aqm(x y)(a b)(hx:IL x a)(hy:IL y b)(hl:a.length<=1000000)(yc:a.length<=b.length):∀h,W5.call 110 [x,y] h=aa (.ret (im (oi a b)),h):=by obtain⟨h1,h2⟩:=hx.hold;obtain⟨h3,h4⟩:=hy.hold;obtain⟨h',c,-⟩:=aql ⟨[],[],0,[]⟩ (aI x) (aI y) a b h1 h3 hl yc;exact iX (L:=L5) (dL:=[aI x,aI y]) rfl rfl (by simp[bg,h2,h4]) c rfl rfl
def Tl(x y z)(ae)(ag av)(hx:RL x ae)(hy:IL y ag)(hz:IL z av)(hl:av.length<=1000000):∀h,W5.call 129 [.agg [x,y],z] h=aa (.ret (im (iT ae ag av)),h):=by obtain⟨h1,h2,h3,h4⟩:=vE hx hy;obtain⟨h5,h6⟩:=hz.hold;obtain⟨r,h',c,-,rfl⟩:=aeD ⟨[],[],0,[]⟩ (aI x) (aI y) (aI z) ae ag av h1 h2 h5 hl;exact iX (L:=L5) (dL:=[.agg [aI x,aI y],aI z]) rfl rfl (by simp[bg,aW,h3,h4,h6]) c rfl rfl
def alM(x y)(ae)(ag)(hx:RL x ae)(hy:IL y ag)(a v):∀h,W5.call 130 [.agg [x,y],.agg [im a,im v]] h=aa (.ret (.v (.bool (vK ae (a,v)))),h):=by obtain⟨h1,h2,h3,h4⟩:=vE hx hy;obtain⟨r,h',c,-,rfl⟩:=alL ⟨[],[],0,[]⟩ (aI x) (aI y) ae ag h1 h2 a v;exact iX (L:=L5) (dL:=[.agg [aI x,aI y],.agg [im a,im v]]) rfl rfl (by simp[bg,aW,h3,h4,im]) c rfl rfl
def TQ:∀l:List Int,(ints l).flatten=l.map im
 | []=>rfl
 |a::l=>by show(vq a::ints l).flatten=im a::l.map im;rw[oK,TQ l];rfl
def ahG{h}{y}{l}(s:dO 1 h y (ints l)):IL (gJ h y) l/\aW 0 0 0 (gJ h y)=ai:=by
 rcases s.2 with⟨k,s',rfl,hs⟩|⟨b,off,aA,cs,rfl,-,hb,h1,h2⟩
 ·rw[gJ];exact⟨⟨_,_,rfl,λq=>hs (by unfold ints;simpa using q)⟩,by rw[aW,fJ,ud];rfl⟩
 ·rw[gJ,hb];simp only;rw[nY] at h1 h2;have e:(ints l).flatten.map (λc=>[c])=ints l:=by have this:(ints l).flatten=l.map im:=TQ l;rw[this,TP]
  rw[aD h2,h1,e];exact⟨⟨_,_,rfl,λ_=>rfl⟩,by rw[aW,ud];rfl⟩
def aef(x y)(a b)(hx:IL x a)(hy:IL y b)(hl:a.length+b.length<=1000000):∃z,IL z (a++b)/\∀h,W5.call 109 [.list .tight 1 [[x],[y]]] h=aa (.ret z,h):=by
 obtain⟨h1,h2⟩:=hx.hold;obtain⟨h3,h4⟩:=hy.hold;obtain⟨r,h',c,z,rfl,-,sz⟩:=aed .tight [aI x,aI y] [ints a,ints b] rfl ⟨[],[],0,[]⟩ (λi w rs hw jh=>by
  have sa:∀{w:AV} {l:List Int},IL w l->dO 1 ⟨[],[],0,[]⟩ w (ints l):=λ{w l} hw=>by obtain⟨k,s,rfl,hs⟩:=hw;exact dO.list (λr hr=>by obtain⟨n,-,rfl⟩:=jE.1 hr;rfl) λq=>hs λe=>q (by rw[e];rfl)
  rcases i with _|_|i
  ·injection hw with hw;injection jh with jh;subst hw;subst jh;exact sa h1
  ·injection hw with hw;injection jh with jh;subst hw;subst jh;exact sa h3
  ·cases hw) (by simp[eT];omega) bG
 have e:[ints a,ints b].flatten=ints (a++b):=by simp[ints]
 rw[e] at sz;obtain⟨i1,i2⟩:=ahG sz;exact⟨_,i1,iX (L:=L5) (dL:=[.list .tight 1 [[aI x],[aI y]]]) rfl rfl (by simp[bg,aW,iU,h2,h4,AD]) c rfl i2⟩
def afQ(bh b)(k)(hb:b.length<=1099511620000)(ht:bh.length<=1099511620000):∀h,W5.call 78 [.v (.string (bs bh)),.list k 1 (aX b)] h=aa (.ret (im (nh (fZ bh b):Nat)),h):=
 iX (L:=L5) (dL:=[.v (.string (bs bh)),.list (ct k) 1 (aX b)]) rfl (by rw[cA,cA,aI.eq_1,qP];rfl) (by simp[bg,aW,fJ,kC]) (Ud bh b _ hb ht _) rfl rfl
def uL.hold{x}{v}(h:uL x v):uL (aI x) v/\aW 0 0 0 (aI x)=ai:=by
 cases h with|int n hn=>exact⟨.int n hn,rfl⟩|text k s b hs hb=>rw[aI,aI,qP];exact⟨.text _ s b hs hb,by simp[aW,fJ,kC]⟩|val v r h=>obtain⟨h1,h2⟩:=dh.hold v r h;rw[aI,aI];exact⟨.val v _ h1,by simpa [aW] using h2⟩
def tP.hold{xs}{vs}(h:tP xs vs):tP (xs.map aI) vs/\∀a∈xs.map aI,aW 0 0 0 a=ai:=by
 refine⟨⟨by simp[h.1],λi x v hx hv=>?_⟩,λa ha=>?_⟩
 ·rw[eR] at hx;cases hy:xs[i]? with
  |none=>rw[hy] at hx;cases hx
  |some y=>rw[hy] at hx;injection hx with hx;subst hx;exact(h.2 i y v hy hv).hold.1
 ·obtain⟨y,hy,rfl⟩:=jE.1 ha;obtain⟨i,hi⟩:=vT hy;have dG:=(aQ.1 hi).1;exact(h.2 i y _ hi (a9 (by rw[<-h.1];exact dG))).hold.2
def dh.tok{vs}{t}{sz}{ae}(h:dh (.list vs) (bf 3 0 [] t sz ae))(t2):dh (.list vs) (bf 3 0 [] t2 sz ae):=by
 generalize hr:bf 3 0 [] t sz ae=r at h;cases h with|list l k z rs a b c d=>unfold bf at hr;injection hr with _ hr;injection hr with _ hr;injection hr with _ hr;injection hr with hr;injection hr with q1 q2 q3;subst q2;subst q3;exact .list vs t2 sz ae a b c d
def aiq(k)(s)(xs)(vs)(hr:tP xs vs)(hs:xs≠[]->s=1)(hl:xs.length<=1000):
 ∃row,dh (.list vs) row/\∀h,W5.call 112 [.list k s (xs.map λa=>[a])] h=aa (.ret (.agg row),h):=by
 obtain⟨h1,h2⟩:=hr.hold;obtain⟨r,h',c,-,t,sz,ae,rfl,hv,hf,-⟩:=OY ⟨[],[],0,[]⟩ ux (ct k) s (xs.map aI) vs h1 (λq=>hs (by simpa using q)) (by simpa using hl) h2;refine⟨bf 3 0 [] (ct t) sz ae,hv.tok _,iX (L:=L5) (dL:=[.list (ct k) s ((xs.map aI).map λa=>[a])]) rfl (by rw[cA,cA,aI,BN]) (by rw[bg,bg,aW,fJ,xW _ h2];rfl) c rfl ?_⟩;rw[aW,bf,bg,bg,bg,bg,bg,aW,fJ,hf];rfl
def T9{z}{h}:∀xs:List AV,qJ z h (xs.map λa=>[a])=(xs.map (jR z h)).map λa=>[a]
 | []=>rfl
 |x::xs=>by rw[ev,qJ,T9 xs];rfl
def Ua{z}{h}:∀b:List UInt8,qJ z h (aX b)=aX b
 | []=>rfl
 |a::b=>by show qJ z h (jQ a::aX b)=_;rw[qJ,Ua b];rfl
def vQ(h:ao)(x:AV)(v:Vl):Prop:=uL (jR 4 h x) v/\aW 0 0 0 (jR 4 h x)=ai
def yL(h:ao)(xs:List AV)(vs:List Vl):Prop:=xs.length=vs.length/\∀(i:Nat) x v,xs[i]?=aa x->vs[i]?=aa v->vQ h x v
def yL.nil{h}:yL h [] []:=⟨rfl,λi x v q=>by simp at q⟩
def yL.cons{h}{x}{v}{xs}{vs}(q:vQ h x v)(hs:yL h xs vs):yL h (x::xs) (v::vs):=by
 refine⟨by simp[hs.1],λi y w hy hw=>?_⟩;cases i with|zero=>simp at hy hw;subst hy;subst hw;exact q|succ i=>simp at hy hw;exact hs.2 i y w hy hw
def vQ.int{h}(n)(hn:0<=n/\n<=4611686018427387903):vQ h (.iface 3 (.v (.int .i64 n))) (.int n):=⟨.int n hn,rfl⟩
def vQ.text{h}(k)(s)(b)(hs:b≠[]->s=1)(hb:b.length<=1099511620000):vQ h (.iface 28 (.list k s (aX b))) (.text b):=by unfold vQ;rw[jR,jR,Ua];exact⟨.text _ s b hs hb,by simp[aW,fJ,kC]⟩
def amS{z}{ae:List (List AV)}(hr:∀r∈ae,r.length=z){i}{r}(h:ae[i]?=aa r):(ae.flatten.drop (i * z)).take z=r:=by
 have hl:=hr r (ez h);refine sM λj=>?_;rw[nU];split
 ·rename_i hj;rw[pR,aft hr i j hj,h];rfl
 ·rename_i hj;rw[qB ah]
def amV{z}(hz:0<z):∀ae:List (List AV),(∀r∈ae,r.length=z)->xc z ae.flatten 0 ae.length=ae:=by
 intro ae hr;refine sM λi=>?_;unfold xc;rw[eR];rcases dT i ae.length with hi|hi
 ·rw[yW hi,eX,Nat.zero_add,amS hr (a9 hi),a9 hi]
 ·rw[qB (by simpa using hi),qB hi];rfl
def vQ.list{h}{vs}{ae}{b}(hb:h.boxes[b]?=aa ae.flatten)(hr:pq vs ae)(hm:ae.length<=1000000):vQ h (.iface 96 (.agg (im 3::im 0::sv []::[.arr b 0 ae.length ae.length]))) (.list vs):=by
 have hl:∀r∈ae,r.length=4:=λr fN=>by obtain⟨i,hi⟩:=vT fN;have dG:=(aQ.1 hi).1;exact(hr.2 i _ r (a9 (by rw[<-hr.1];exact dG)) hi).len
 have e:jR 4 h (.iface 96 (.agg (im 3::im 0::sv []::[.arr b 0 ae.length ae.length])))=.iface 96 (.agg (bf 3 0 [] .held 4 (fS ae))):=by unfold im sv bf;simp only[jR,lP,hb];rw[aD ⟨by rw[na hl];omega,by decide⟩,amV aO ae hl];rfl
 have hv:dh (.list vs) (bf 3 0 [] .held 4 ae):=.list vs .held 4 ae hr.1 (λ_=>rfl) hm hr.2;obtain⟨h1,h2⟩:=dh.hold _ _ hv;have e2:cA (bf 3 0 [] .held 4 ae)=bf 3 0 [] .held 4 (fS ae):=rfl;rw[e2] at h1 h2;unfold vQ;rw[e];exact⟨.val _ _ h1,by simpa [aW] using h2⟩
def yL.nb{h}{xs}{vs}(q:yL h xs vs):tP (xs.map (jR 4 h)) vs/\∀a∈xs.map (jR 4 h),aW 0 0 0 a=ai:=by
 refine⟨⟨by simp[q.1],λi x v hx hv=>?_⟩,λa ha=>?_⟩
 ·rw[eR] at hx;cases hy:xs[i]? with
  |none=>rw[hy] at hx;cases hx
  |some y=>rw[hy] at hx;injection hx with hx;subst hx;exact(q.2 i y v hy hv).1
 ·obtain⟨y,hy,rfl⟩:=jE.1 ha;obtain⟨i,hi⟩:=vT hy;have dG:=(aQ.1 hi).1;exact(q.2 i y _ hi (a9 (by rw[<-q.1];exact dG))).2
def UG(h)(bh)(k)(s)(xs)(vs)(hr:yL h xs vs)(hs:xs≠[]->s=1)(hl:xs.length<=1000)(ht:bh.length<=1099511620000)(zL:gg (.list vs)<=16)(zM:(dM (.list vs)).length<=1099511600000):
 W5.call 114 [.v (.string (bs bh)),.list k s (xs.map λa=>[a])] h=aa (.ret (im ((tq bh (.list vs):Nat):Int)),h):=by
 obtain⟨h1,h2⟩:=hr.nb;obtain⟨r,h',c,rfl⟩:=agq ⟨[],[],0,[]⟩ ux bh (ct k) s (xs.map (jR 4 h)) vs h1 (λq=>hs (by simpa using q)) (by simpa using hl) h2 ht zL zM;refine afC (dL:=[.v (.string (bs bh)),.list (ct k) s ((xs.map (jR 4 h)).map λa=>[a])]) rfl rfl ?_ ?_ c
 ·rw[lP,lP,lP,jR,T9];rfl
 ·simp only[bg,aW,fJ,xW _ h2,Bool.and_self]
def xJ.hold{x}{v}(h:xJ x v):xJ (aI x) v/\aW 0 0 0 (aI x)=ai:=by
 cases h with|int n hn=>exact⟨.int n hn,rfl⟩|text k s b hs hb=>rw[aI,aI,qP];exact⟨.text _ s b hs hb,by simp[aW,fJ,kC]⟩
def vW.hold{xs}{vs}(h:vW xs vs):vW (xs.map aI) vs/\∀a∈xs.map aI,aW 0 0 0 a=ai:=by
 refine⟨⟨by simp[h.1],λi x v hx hv=>?_⟩,λa ha=>?_⟩
 ·rw[eR] at hx;cases hy:xs[i]? with
  |none=>rw[hy] at hx;cases hx
  |some y=>rw[hy] at hx;injection hx with hx;subst hx;exact(h.2 i y v hy hv).hold.1
 ·obtain⟨y,hy,rfl⟩:=jE.1 ha;obtain⟨i,hi⟩:=vT hy;have dG:=(aQ.1 hi).1;exact(h.2 i y _ hi (a9 (by rw[<-h.1];exact dG))).hold.2
def ait(k)(s)(xs)(vs)(hr:vW xs vs)(hs:xs≠[]->s=1)(hl:xs.length<=1000)(zL:gg (.list vs)<=16)(zM:(dM (.list vs)).length<=1099511600000):
 ∃t,∀h,W5.call 79 [.list k s (xs.map λa=>[a])] h=aa (.ret (.list t 1 (aX (dM (.list vs)))),h):=by
 obtain⟨h1,h2⟩:=hr.hold;obtain⟨r,h',c,t,rfl⟩:=ais ⟨[],[],0,[]⟩ ux (ct k) s (xs.map aI) vs h1 (λq=>hs (by simpa using q)) (by simpa using hl) zL zM;exact⟨ct t,iX (L:=L5) (dL:=[.list (ct k) s ((xs.map aI).map λa=>[a])]) rfl (by rw[cA,cA,aI,BN]) (by rw[bg,bg,aW,fJ,xW _ h2];rfl) c rfl (by simp[aW,fJ,kC])⟩
def R1(k0)(s0)(xs:List AV)(y z)(ae)(ag ar)(hx:RL (.list k0 s0 (xs.map λa=>[a])) ae)(hy:IL y ag)(hz:IL z ar)(ji:ar.length<=1099511627776):
 (∃e,iL ae ag ar=([],ay,e)/\∀h,W5.call 76 [.agg [.list k0 s0 (xs.map λa=>[a]),y],z] h=aa (.ret (.tuple [.list .nil 0 [],.v (.bool ay),.v (.int .i64 e)]),h))∨
 ∃l,iL ae ag ar=(l,ai,0)/\l.length=ae.length/\∀h,W5.call 76 [.agg [.list k0 s0 (xs.map λa=>[a]),y],z] h=aa (.ret (.tuple [.list .held 1 (ints l),.v (.bool ai),.v (.int .i64 0)]),h):=by
 obtain⟨h1,h2⟩:=hx.hold;obtain⟨h3,h4⟩:=hy.hold;obtain⟨h5,h6⟩:=hz.hold;have ea:cA [.agg [.list k0 s0 (xs.map λa=>[a]),y],z]=[.agg [.list (ct k0) s0 ((xs.map aI).map λa=>[a]),aI y],aI z]:=by rw[cA,aI,cA,cA,cA,aI,BN];rfl
 have ef:bg 0 0 0 [.agg [.list (ct k0) s0 ((xs.map aI).map λa=>[a]),aI y],aI z]=ai:=by have hf:=xW _ h2;rw[bg,aW,bg,bg,bg,bg,aW,fJ,hf,h4,h6];rfl
 rcases abo (ct k0) s0 (xs.map aI) (aI y) (aI z) ae ag ar h1 h3 h5 ji with⟨e,e1,hc⟩|⟨l,e1,e2,hc⟩
 ·exact .inl ⟨e,e1,iX (L:=L5) rfl ea ef (hc _) rfl rfl⟩
 ·exact .inr ⟨l,e1,e2,iX (L:=L5) rfl ea ef (hc _) rfl (by simp[aW,bg,ud,AD])⟩
def Er:Tryz.f26.results.toList=[.tmp 6]:=aw
def pU{b}:gi aj 50 (.ptr (.box b) 0) 0=aa (.ptr (.box b) 0):=aw
def pV{b}:gi aj 50 (.ptr (.box b) 0) 1=aa (.ptr (.box b) 1):=aw
def GD:isIface aj 3=aa ay:=aw
def OE:isIface aj 28=aa ay:=aw
def ahH:isIface aj 96=aa ay:=aw
def SD(t u v)(x y z):gN aj 180 3 [(0,.iface t x),(1,.iface u y),(2,.iface v z)]=aa (.list .tight 1 [[.iface t x],[.iface u y],[.iface v z]]):=aw
def Qt(a b)(t):(dM (.list [.int a,.int b,.text t])).length<=60+t.length:=by
 have h1:=nP 9 (0+1+1+1);have h2:=nP 9 (kU a);have h3:=nP 9 (kU b);have h4:=nP 9 t.length;simp only[dM,iC,iJ,du,jP] at *
 omega
def rL:b9 4=ai:=by decide+kernel
def td{a}(h:b9 a=ai)(n):eU a n=((br a.toNat n:Nat):Int):=by unfold eU;rw[aD h]
def uX{a}(h:elem a=ai):b9 ((a:Nat):Int)=ai:=by unfold b9;rw[dS,h,Bool.and_true];have:=(elem_iff.1 h).1;exact cz ah
def Dh{a}(h:b9 a=ai):elem a.toNat=ai:=by unfold b9 at h;rw[bA] at h;exact h.2
def zt{a}(h:b9 a=ai):1<=a/\a<=2147483578:=by obtain⟨n,rfl,h1,h2,h3⟩:=A7 h;have:P=2147483579:=rfl;omega
def aeR{a}(h:b9 a=ai)(n):b9 ((br a.toNat n:Nat):Int)=ai:=uX (Ar (Dh h) n)
def uW{a}(h:b9 a=ai)(n):b9 (eU a n)=ai:=by rw[td h];exact aeR h n
def Dp{a b}(h:b9 a=ai)(k:b9 b=ai):jy a b=((a.toNat * b.toNat%P:Nat):Int):=by unfold jy;rw[aD ⟨h,k⟩]
def Tr{a b}(h:b9 a=ai)(k:b9 b=ai):b9 (jy a b)=ai:=by rw[Dp h k];exact uX (FI (Dh h) (Dh k))
def aqK(h:ao)(key e s:Int)(kt:Tok)(st:Nat)(text:List UInt8)(cd:text≠[]->st=1)(hl:text.length<=1000000):
 ∃r h',W5.call 26 [im key,.list kt st (aX text),.agg [im e,im s]] h=aa (r,h')/\r=.ret (.v (.bool (ny key text e s)))/\Ext h h':=by
 have c1:=KV key;have bx:(AV.agg [im e,im s]).bU=aa [im e,im s]:=rfl;have l0:=OO (bp h [im e,im s]);have l1:=OP (bp h [im e,im s]);have kv:aq (ny key text e s=(b9 key&&cE e&&cE s&&decide (e=((sC ((br Gn s * br key.toNat (0 - e)%P:Nat):Int) key text:Nat):Int)))):=⟨by rw[Int.zero_sub];rfl⟩;generalize ny key text e s=res at *
 refine ec rfl Tryz.func26 rfl ?_;unfold im at *
 by_cases hA:e<0∨s<0
 ·have d1:decide ((if s<e then s else e)<0)=ai:=cz (by split<;>omega);have kr:aq (res=ay):=⟨by
   rw[kv.out];unfold cE;rcases hA with q|q
   ·rw[cX (ah:¬0<=e)];simp
   ·rw[cX (ah:¬0<=s)];simp⟩
  clear hA;refine bW @Er @pU @pV (ax @bK (ax @GL @Ci)) ?_;exact⟨_,_,rfl,by rw[kr.out],.push _ _⟩
 have d1:decide ((if s<e then s else e)<0)=ay:=cX (by split<;>omega);by_cases hB:1073741789<=e∨1073741789<=s
 ·have d2:decide (1073741789<=(if e<s then s else e))=ai:=cz (by split<;>omega);have kr:aq (res=ay):=⟨by
   rw[kv.out];unfold cE Qi;rcases hB with q|q
   ·rw[cX (ah:¬e<1073741789)];simp
   ·rw[cX (ah:¬s<1073741789)];simp⟩
  clear hA hB;refine bW @Er @pU @pV (ax @bK (ax @GL @Ci)) ?_;exact⟨_,_,rfl,by rw[kr.out],.push _ _⟩
 have d2:decide (1073741789<=(if e<s then s else e))=ay:=cX (by split<;>omega);have aV:0<=e:=by omega
 have ot:e<1073741789:=by omega
 have yl:0<=s:=by omega
 have cK:s<1073741789:=by omega
 clear hA hB;cases hC:b9 key with
 |false=>rw[hC] at c1;have kr:aq (res=ay):=⟨by rw[kv.out,hC];rfl⟩;clear hC;refine bW @Er @pU @pV (ax @bK (ax @GL @Ci)) ?_;exact⟨_,_,rfl,by rw[kr.out],.push _ _⟩
 |true=>
  rw[hC] at c1;have c2:=Xn 4 s;have c3:=Xn key (0 - e);have c4:=Dq (eU 4 s) (eU key (0 - e));have hr:=Tr (uW rL s) (uW hC (0 - e));have hR:jy (eU 4 s) (eU key (0 - e))=((br Gn s * br key.toNat (0 - e)%P:Nat):Int):=by rw[Dp (uW rL s) (uW hC (0 - e)),td rL,td hC,dS,dS];rfl
  have kr:aq (res=decide (e=((sC (jy (eU 4 s) (eU key (0 - e))) key text:Nat):Int))):=⟨by rw[kv.out,hC,hR,qU.2 (show okF e from⟨aV,ot⟩),qU.2 (show okF s from⟨yl,cK⟩)];rfl⟩;have hk:=zt hC;have kL:=zt hr;clear hC hR hr;generalize jy (eU 4 s) (eU key (0 - e))=R at *
  have bO:=Qt R key text;obtain⟨te,c5⟩:=ait .tight 1 [.iface 3 (.v (.int .i64 R)),.iface 3 (.v (.int .i64 key)),.iface 28 (.list kt st (aX text))] [.int R,.int key,.text text]
   (.cons (.int R ⟨ah,by omega⟩) (.cons (.int key ⟨ah,by omega⟩) (.cons (.text kt st text cd ah) .nil))) (λ_=>rfl) bG (by simp[gg,gO]) ah
  have c6:=afQ xj (dM (.list [.int R,.int key,.text text])) te ah aO;have hh:nh (fZ xj (dM (.list [.int R,.int key,.text text])))=sC R key text:=rfl;rw[hh] at c6;simp only[ev,uN] at c5;generalize sC R key text=n at *
  rw[show xj=[115,105,103,110] from rfl] at c6;have wn:IntKind.i64.wrap (0 - e)=0 - e:=fh ah ah;unfold im at *
  clear bO hh hk kL;refine bW @Er @pU @pV (ax @bK (ax @GL @Ci)) ?_;refine fQ nH aw ?_;refine eg @Er @pU @pV ?_;refine fQ nH aw ?_;refine bW @Er @pU @pV (ax @GD (ax @OE @SD)) ?_;exact⟨_,_,rfl,by rw[kr.out],.push _ _⟩
def Et:Tryz.f68.results.toList=[.tmp 6,.tmp 7]:=aw
def Qb:Tryz.f56.results.toList=[.tmp 6,.tmp 7]:=aw
def wZ(av row:List Int)(k:Nat):Nat:=(bL k).foldl (λx j=>x * br (al av j).toNat (al row j)%P) 1
def Xp(av row)(k):wZ av row (k+1)=wZ av row k * br (al av k).toNat (al row k)%P:=by unfold wZ;rw[oN,oL];rfl
def PG{av row}(h:av.all b9=ai):∀k,k<=av.length->elem (wZ av row k)=ai
 |0,_=>Di
 |k+1,hk=>by rw[Xp];refine FI (PG h k ah) (Ar (Dh ?_) _);rw[eE] at h;exact h _ (by rw[fx ah];exact iS _)
def tL(ae:List (List Int))(ag av:List Int)(row:Int):Int × Int:=
 if iT ae ag av≠0 then (0,iT ae ag av) else if decide (row<0)||decide ((ae.length:Int)<=row) then (0,1) else (((mS av (ae.getD row.toNat []):Nat):Int),0)
def S7{ae}{ag av}(h:iT ae ag av=0):dn ae ag=0/\av.length=bV ae/\av.all b9=ai:=by
 unfold iT at h;split at h
 ·rename_i q;exact absurd h q
 ·rename_i q;split at h
  ·rename_i q2;rw[bA,decide_eq_true_eq] at q2;exact⟨by simpa using q,q2.1,q2.2⟩
  ·cases h
def Xr(h:ao)(x y z:AV)(ae:List (List Int))(ag av:List Int)(hx:RL x ae)(hy:IL y ag)(hz:IL z av)(hl:av.length<=1000000)(row:Int):
 ∃r h',W5.call 68 [.agg [x,y],z,im row] h=aa (r,h')/\r=.ret (.tuple [im (tL ae ag av row).1,im (tL ae ag av row).2])/\Ext h h':=by
 have bx:=As hx hy;have c1:=Tl x y z ae ag av hx hy hz hl;have b0:=bp h [x,y];have l0:=vx b0;have l1:=vw b0;have ln:=hx.dN;have kx:=aq.mk (ax hx hz);clear hx hy b0;have oz:aq (iT ae ag av≠0->tL ae ag av row=(0,iT ae ag av)):=⟨λq=>by unfold tL;rw[aD q]⟩;have nM:aq (iT ae ag av=0->row<0∨(ae.length:Int)<=row->tL ae ag av row=(0,1)):=⟨λq p=>by
  unfold tL;rw[aG (by simp[q]),aD];rcases p with p|p
  ·rw[cz p];rfl
  ·rw[cz p];simp⟩
 have Gq:aq (iT ae ag av=0->¬row<0->¬(ae.length:Int)<=row->tL ae ag av row=(((mS av (ae.getD row.toNat []):Nat):Int),0)):=⟨λq p1 p2=>by unfold tL;rw[aG (by simp[q]),aG (by rw[cX p1,cX p2];simp)]⟩;have Dw:=λq=>@S7 ae ag av q;have kck:=aq.mk Dw;clear Dw;generalize tL ae ag av row=res at *
 unfold im at *
 refine ec rfl Tryz.func68 rfl ?_;by_cases h0:iT ae ag av=0;rotate_left 1
 ·have kr:=aq.mk (oz.out h0);generalize iT ae ag av=q at *
  refine cq @Et @bK ?_;exact⟨_,_,rfl,by rw[kr.out],.push _ _⟩
 rw[h0] at c1;by_cases h1:row<0
 ·have d1:decide (row<0)=ai:=cz h1;have kr:=aq.mk (nM.out h0 (.inl h1));clear h1 h0;refine eg @Et @bK @eN ?_;exact⟨_,_,rfl,by rw[kr.out],.push _ _⟩
 have d1:decide (row<0)=ay:=cX h1;by_cases h2:(ae.length:Int)<=row
 ·have d2:decide ((ae.length:Int)<=row)=ai:=cz h2;have kr:=aq.mk (nM.out h0 (.inr h2));clear h1 h0 h2;refine eg @Et @bK @eN ?_;exact⟨_,_,rfl,by rw[kr.out],.push _ _⟩
 have d2:decide ((ae.length:Int)<=row)=ay:=cX h2;have kr:=aq.mk (Gq.out h0 h1 h2);obtain⟨q1,q2,q3⟩:=kck.out h0;obtain⟨w1,w2,w3,w4⟩:=qZ q1;have dU:row.toNat<ae.length:=by omega
 have DP:=w3 _ (iS dU);rw[<-kJ (t:=ae) dU] at DP;generalize hR:ae.getD row.toNat []=R at *
 have yb:R.length=av.length:=by rw[DP.1,q2]
 have cV:av.length<=64:=by rw[<-yb];exact DP.2.2.1
 obtain⟨k,s,xs,rfl,hs,ff,gI⟩:=kx.out.1;obtain⟨kz,sz,rfl,dV⟩:=kx.out.2;have cK:s=1:=hs (by intro q;rw[q] at dU;simp at dU);subst cK;obtain⟨a,iV⟩:∃a,xs[row.toNat]?=aa a:=⟨_,a9 ah⟩;have hv:ae[row.toNat]?=aa R:=by rw[<-hR,eQ,a9 dU];rfl
 obtain⟨ka,sa,rfl,mN⟩:=gI _ a R iV hv;have ld:=oY (H:=h.push [.list k 1 (xs.map λa=>[a]),y]) (s:=1) iV;have kk:=aq.mk (ax dV (ax mN q3));have Dr:0<=row:=by omega
 have wD:row<(ae.length:Int):=by omega
 have dG:(xs.map λa=>[a]).length=ae.length:=by rw[bJ];exact ff
 have Bz:=eT R;have arM:=eT av;have u23:=eY;have u22:=oR;have z23:=jN;have z3:=iQ;clear hs gI dV mN iV hv hR DP w1 w2 w3 w4 q1 q2 q3 oz nM Gq h0 kx kck hz h1 h2;refine eg @Et @bK @eN ?_;refine de (λm e H=>∃j:Nat,j<=av.length/\m=av.length - j/\e.get 2=.v (.int .i64 row)/\e.get 3=.ptr (.box h.boxes.length) 0/\e.get 6=.v (.int .i64 (wZ av R j:Nat))/\e.get 28=.list kz sz (ints av)/\e.get 29=.v (.int .i64 (av.length:Nat))/\e.get 30=.v (.int .i64 (j:Nat))/\e.defers=[]/\H=h.push [.list k 1 (xs.map λa=>[a]),y]) ?_ av.length _ _ ?_;rotate_left 1
 ·refine⟨0,df _,rfl,?_,?_,?_,?_,?_,?_,?_,rfl⟩<;>exact gR
 rintro m e H ⟨j,hj,rfl,g2,g3,g6,g28,g29,g30,hd,rfl⟩;by_cases az:j<av.length
 ·have iF:sz=1:=kk.out.1 (by intro q;rw[q] at az;simp at az);subst iF;have wF:sa=1:=kk.out.2.1 (by intro q;rw[q] at yb;simp at yb;omega);subst wF;have ir:(j:Int)<(av.length:Int):=by omega
  have arS:(j:Int)<(R.length:Int):=by omega
  have lc:=fP (H:=h.push [.list k 1 (xs.map λa=>[a]),y]) (l:=av) (i:=j) (s:=1) az;have lr:=fP (H:=h.push [.list k 1 (xs.map λa=>[a]),y]) (l:=R) (i:=j) (s:=1) ah;have he:b9 (al av j)=ai:=by have:=kk.out.2.2;rw[eE] at this;exact this _ (by rw[fx az];exact iS _)
  have c2:=Jf (al av j) (al R j);have c3:=Dq ((wZ av R j:Nat):Int) (eU (al av j) (al R j));have hK:=uX (PG (row:=R) kk.out.2.2 j hj);have e3:jy ((wZ av R j:Nat):Int) (eU (al av j) (al R j))=((wZ av R (j+1):Nat):Int):=by rw[Dp hK (uW he _),td he,Xp,dS,dS]
  have e4:mo (al av j)=0:=by unfold mo;rw[aD he]
  have e5:nf ((wZ av R j:Nat):Int) (eU (al av j) (al R j))=0:=by unfold nf;rw[aD ⟨hK,uW he _⟩]
  rw[e4] at c2;rw[e3,e5] at c3;clear he hK e3 e4 e5;generalize eU (al av j) (al R j)=pw at *
  generalize al av j=cj at *
  generalize al R j=rj at *
  unfold im at *
  refine eg @Et @eN @ck ?_;exact⟨av.length - (j+1),by omega,j+1,by omega,rfl,by simp⟩
 ·have:j=av.length:=by omega
  subst this;have e:wZ av R av.length=mS av R:=rfl;refine bR @Et ?_;exact⟨_,_,rfl,by rw[kr.out,<-e],.push _ _⟩
def sY(ae:List (List Int))(ag av:List Int)(p:Int × Int):Bool × Int:=
 if iT ae ag av≠0 then (ay,iT ae ag av) else if vK ae p=ay then (ay,340) else (decide (br Gn p.2=mS av (ae.getD p.1.toNat [])),0)
def afk(h:ao)(x y z:AV)(ae:List (List Int))(ag av:List Int)(hx:RL x ae)(hy:IL y ag)(hz:IL z av)(hl:av.length<=1000000)(a v:Int):
 ∃r h',W5.call 56 [.agg [x,y],z,.agg [im a,im v]] h=aa (r,h')/\r=.ret (.tuple [.v (.bool (sY ae ag av (a,v)).1),im (sY ae ag av (a,v)).2])/\Ext h h':=by
 have bx:=As hx hy;have b2:(AV.agg [im a,im v]).bU=aa [im a,im v]:=rfl;have c1:=Tl x y z ae ag av hx hy hz hl;have c2:=alM x y ae ag hx hy a v;obtain⟨_,H2,c3,rfl,x3⟩:=Xr ((h.push [x,y]).push [im a,im v]) x y z ae ag av hx hy hz hl a;have c4:=Jf 4 v;have e4:mo 4=0:=by unfold mo;rw[aD rL]
 rw[e4,td rL] at c4;have q1:((h.push [x,y]).push [im a,im v]).boxes[h.boxes.length]?=aa [x,y]:=aZ (bp h [x,y]);have q2:=bp (h.push [x,y]) [im a,im v];have l0:=vx q1;have l1:aF aj Gt ((h.push [x,y]).push [im a,im v]) 81 (.ptr (.box (h.push [x,y]).boxes.length) 0)=aa (.agg [im a,im v]):=by rw[jj aw (by kernel_rfl:dm aj 81=aa 2) q2 (aJ 2)];rfl
 have l2:=OO q2;have l3:aF aj Gt H2 3 (.ptr (.box (h.push [x,y]).boxes.length) 1)=aa (im v):=OP (x3.box _ _ q2);have kX:=aq.mk (((Ext.push h [x,y]).trans (.push _ [im a,im v])).trans x3);have X1:=aq.mk ((Ext.push h [x,y]).trans (.push _ [im a,im v]));have oz:aq (iT ae ag av≠0->sY ae ag av (a,v)=(ay,iT ae ag av)):=⟨λq=>by unfold sY;rw[aD q]⟩;have nM:aq (iT ae ag av=0->vK ae (a,v)=ay->sY ae ag av (a,v)=(ay,340)):=⟨λq p=>by unfold sY;rw[aG (by simp[q]),aD p]⟩;have Gq:aq (iT ae ag av=0->vK ae (a,v)=ai->sY ae ag av (a,v)=(decide (br Gn v=mS av (ae.getD a.toNat [])),0)):=⟨λq p=>by unfold sY;rw[aG (by simp[q]),aG (by simp[p])]⟩;have uk:aq (iT ae ag av=0->vK ae (a,v)=ai->tL ae ag av a=(((mS av (ae.getD a.toNat []):Nat):Int),0)):=⟨λq p=>by unfold vK at p;simp only[bA,decide_eq_true_eq] at p;unfold tL;rw[aG (by simp[q]),aG];rw[cX (ah:¬a<0),cX (ah:¬(ae.length:Int)<=a)];simp⟩;clear hx hy hz q1 q2 x3 e4;generalize sY ae ag av (a,v)=res at *
 refine ec rfl Tryz.func56 rfl ?_;by_cases h0:iT ae ag av=0;rotate_left 1
 ·have kr:=aq.mk (oz.out h0);clear c3 c2 l3;generalize iT ae ag av=q at *
  unfold im at *
  refine cq @Qb @bK ?_;exact⟨_,_,rfl,by rw[kr.out],X1.out⟩
 rw[h0] at c1;cases h1:vK ae (a,v) with
 |false=>
  have kr:=aq.mk (nM.out h0 h1);rw[h1] at c2;clear c3 h1 h0 l3;unfold im at *
  refine cq @Qb @bK ?_;exact⟨_,_,rfl,by rw[kr.out],X1.out⟩
 |true=>
  have kr:=aq.mk (Gq.out h0 h1);rw[uk.out h0 h1] at c3;rw[h1] at c2;clear h1 h0;have hG:(4:Int).toNat=Gn:=rfl;rw[hG] at c4;have hd:decide (br Gn v=mS av (ae.getD a.toNat []))=decide (((br Gn v:Nat):Int)=((mS av (ae.getD a.toNat []):Nat):Int)):=by rw[decide_eq_decide];omega
  rw[hd] at kr;generalize ((br Gn v:Nat):Int)=p1 at *
  generalize ((mS av (ae.getD a.toNat []):Nat):Int)=p2 at *
  clear oz nM Gq uk hd hG;unfold im at *
  refine bW @Qb @bK @IY @IZ ?_;exact⟨_,_,rfl,by rw[kr.out],kX.out⟩
def yG:Tryz.f44.results.toList=[.tmp 6,.tmp 7,.tmp 8]:=aw
def Mc{T E}{n}(hu:aj.underlying T=aa (.slice E))(hi:∃i,aj.info? E=aa i/\i.size=n/\i.bytes<=64/\(i.zero.map λz=>z.cells.size)=aa n)(hn:0<n){H}{k}{n0 sz}{es}{r}
 (hl:es.length<1000000) (hs:sz=n∨(es=[]/\k=.nil)) (hk:dQ n0 H k):gd aj H #[T,T] (.list k sz es) (.list .tight n [r])=aa (.list (.free H.tn) n (es++[r]),H.app k):=by
 obtain⟨i,h1,q2,q3,h4⟩:=hi;have hb:=ry (ah:es.length+1<=1000000) q3;have:=Fq (P:=aj) (h:=H) (n0:=n0) (k:=k) (sz:=sz) (es:=es) (new:=[r]) (x:=.list .tight n [r]) (t1:=T) hu (.inl ⟨E,hu⟩) h1 ah (by rw[q2];exact h4) (by rw[q2];unfold mw rowsOf;simp) bG (by simp;omega) (by simp;omega) (by rw[q2];exact hs) hk
 rwa [q2] at this
def V0:∃i,aj.info? 81=aa i/\i.size=2/\i.bytes<=64/\(i.zero.map λz=>z.cells.size)=aa 2:=by
 have h:(match aj.info? 81 with|some i=>jw i.size 2&&LB i.bytes 64&&decide ((i.zero.map λz=>z.cells.size)=aa 2)|none=>ay)=ai:=aw;cases hi:aj.info? 81 with
 |none=>rw[hi] at h;cases h
 |some i=>rw[hi] at h;simp only[bA,decide_eq_true_eq] at h;exact⟨i,rfl,jF h.1.1,lN h.1.2,h.2⟩
def jY(p:Int × Int):List AV:=[.v (.int .i64 p.1),.v (.int .i64 p.2)]
def iP(l:List (Int × Int)):List (List AV):=l.map jY
def SL(x:AV)(l:List (Int × Int)):Prop:=∃k s,x=.list k s (iP l)/\(l≠[]->s=2)
def oT(ae:List (List Int))(s:List Int):List (Int × Int):=(bL ae.length).map λi=>(((i:Nat):Int),oi (ae.getD i []) s)
def MB(ae)(s):(oT ae s).length=ae.length:=by unfold oT;simp
def aeG{ae}{s r}{i}(h:ae[i]?=aa r):(oT ae s)[i]?=aa (((i:Nat):Int),oi r s):=by unfold oT;have hi:=(aQ.1 h).1;rw[eR,yW hi,eX,eQ,h];rfl
def sU(ae:List (List Int))(ag:List Int)(bu:Int)(bC:List Int):Int:=
 if dn ae ag≠0 then dn ae ag else if cE bu&&bC.all cE&&decide ((bC.length:Int)=(bV ae:Nat) - 1) then 0 else 1
def Gr(h H:ao)(t:Tok):Prop:=Ext h H/\dj H=ai/\dQ h.tn H t
def Gr.app{h H}{t}(g:Gr h H t):Gr h (H.app t) (.free H.tn):=by have gr:=Grown.one g.2.2 g.2.1 g.1.tn;exact⟨gr.ext g.1 (aJ _),gr.ok,gr.can⟩
def Gr.push{h H}{t}(g:Gr h H t)(cs):Gr h (H.push cs) t:=⟨g.1.trans (.push _ _),g.2.1,by rw[zn];exact g.2.2⟩
def Gr.nil{h H}(x:Ext h H)(o:dj H=ai):Gr h H .nil:=⟨x,o,.inl rfl⟩
def acU(x y)(hx:x.dW=ai)(hy:y.dW=ai):gN aj 22 2 [(0,x),(1,y)]=aa (.list .tight 1 [[x],[y]]):=by cases x<;>first|(cases hx;done)|(cases y<;>first|(cases hy;done)|kernel_rfl)
def IL.dW{x}{l}(h:IL x l):x.dW=ai:=by obtain⟨k,s,rfl,-⟩:=h;rfl
def Sv(a b):gN aj 36 1 [(0,.agg [.v (.int .i64 a),.v (.int .i64 b)])]=aa (.list .tight 2 [[.v (.int .i64 a),.v (.int .i64 b)]]):=aw
def acq(a b):mF aj 81 [(0,.v (.int .i64 a)),(1,.v (.int .i64 b))]=aa (.agg [.v (.int .i64 a),.v (.int .i64 b)]):=aw
def aeE(h:ao)(bD:dj h=ai)(x y z:AV)(ae:List (List Int))(ag bC:List Int)(bu:Int)(hx:RL x ae)(hy:IL y ag)(hz:IL z bC)(hl:bC.length<=1000)(kL:ae.length<=1000000):
 ∃r h',W5.call 44 [.agg [x,y],im bu,z] h=aa (r,h')/\
  ((sU ae ag bu bC≠0/\r=.ret (.tuple [.list .nil 0 [],.list .nil 0 [],im (sU ae ag bu bC)]))∨
  (sU ae ag bu bC=0/\∃t1 s1 t2 s2,r=.ret (.tuple [.list t1 s1 (iP (oT ae (bu::bC))),.list t2 s2 (ints (bF (bu::bC))),im 0])/\(oT ae (bu::bC)≠[]->s1=2)/\s2=1)):=by
 have bx:=As hx hy;have c1:=S4 x y ae ag hx hy;have c2:=WS (.list .tight 1 [[.v (.int .i64 bu)]]) [bu] (JK bu) bG;rw[(bG:[bu].all cE=cE bu)] at c2;have c3:=WS z bC hz ah;have c4:=ad6 x y ae ag hx hy;obtain⟨z2,fO,c5⟩:=aef (.list .tight 1 [[.v (.int .i64 bu)]]) z [bu] bC (JK bu) hz (by simp;omega);have b0:=bp h [x,y];have l0:=vx b0;have l1:=vw b0;have lz:=hz.dN;have bl:=rC bu;have blt:=acU (.list .tight 1 [[.v (.int .i64 bu)]]) z rfl hz.dW;have lx:=hx.dN;have oz:aq (dn ae ag≠0->sU ae ag bu bC=dn ae ag):=⟨λq=>by unfold sU;rw[aD q]⟩;have nM:aq (dn ae ag=0->sU ae ag bu bC=if cE bu&&bC.all cE&&decide ((bC.length:Int)=(bV ae:Nat) - 1) then 0 else 1):=⟨λq=>by unfold sU;rw[aG (by simp[q])]⟩;have kok:=aq.mk (λq=>@qZ ae ag q);have kcp:=aq.mk (λq=>@tY ae ag q);have kx:=aq.mk (ax hx fO);have F1:(bV ae:Int)<=1000000∨dn ae ag≠0:=by
  by_cases q:dn ae ag=0
  ·have:=(tY q).2;exact .inl ah
  ·exact .inr q
 clear hx hy hz b0 fO;generalize sU ae ag bu bC=res at *
 unfold im at *
 refine ec rfl Tryz.func44 rfl ?_;by_cases h0:dn ae ag=0;rotate_left 1
 ·have e1:=oz.out h0;have kr:=aq.mk (ax h0 e1);clear e1 F1 c2 c3 c4 c5;generalize dn ae ag=q at *
  refine cq @yG @bK ?_;exact⟨_,_,rfl,.inl ⟨by rw[kr.out.2];exact kr.out.1,by rw[kr.out.2]⟩⟩
 rw[h0] at c1;have gH:=nM.out h0;have UT:=kcp.out h0;have hw:IntKind.i64.wrap ((bV ae:Nat) - 1:Int)=(bV ae:Nat) - 1:=fh ah ah;clear oz nM kcp F1;have bad:∀(q:(cE bu&&bC.all cE&&decide ((bC.length:Int)=(bV ae:Nat) - 1))=ay),res=1:=λq=>by rw[gH,aG (by simp[q])]
 have good:∀(q:(cE bu&&bC.all cE&&decide ((bC.length:Int)=(bV ae:Nat) - 1))=ai),res=0:=λq=>by rw[gH,aD q]
 have kb:=aq.mk bad;have kg:=aq.mk good;clear bad good gH;cases h1:cE bu with
 |false=>rw[h1] at c2;have kr:aq (res=1):=⟨kb.out (by rw[h1];rfl)⟩;clear h1 h0 c3 c4 c5;refine cq @yG @bK ?_;exact⟨_,_,rfl,.inl ⟨by rw[kr.out];decide,by rw[kr.out]⟩⟩
 |true=>
 rw[h1] at c2;cases h2:bC.all cE with
 |false=>rw[h2] at c3;have kr:aq (res=1):=⟨kb.out (by rw[h1,h2];rfl)⟩;clear h1 h2 h0 c4 c5;refine cq @yG @bK ?_;exact⟨_,_,rfl,.inl ⟨by rw[kr.out];decide,by rw[kr.out]⟩⟩
 |true=>
 rw[h2] at c3;by_cases h3:(bC.length:Int)=(bV ae:Nat) - 1;rotate_left 1
 ·have d3:decide ((bC.length:Int)=((bV ae:Nat):Int) - 1)=ay:=cX h3;have kr:aq (res=1):=⟨kb.out (by rw[h1,h2,d3];rfl)⟩;clear h1 h2 h3 h0 c5;refine cq @yG @bK ?_;exact⟨_,_,rfl,.inl ⟨by rw[kr.out];decide,by rw[kr.out]⟩⟩
 have d3:decide ((bC.length:Int)=((bV ae:Nat):Int) - 1)=ai:=cz h3;have kr:aq (res=0):=⟨kg.out (by rw[h1,h2,d3];rfl)⟩;have mO:(bu::bC).length=bV ae:=by simp;omega
 obtain⟨w1,w2,w3,w4⟩:=kok.out h0;have kw:=aq.mk w3;have ks:=aq.mk mO;rw[List.singleton_append] at kx;obtain⟨k,s,xs,rfl,hs,ff,gI⟩:=kx.out.1;obtain⟨kz,sz,rfl,dV⟩:=kx.out.2;have kk:=aq.mk (ax hs (ax gI dV));have ahy:sz=1:=dV bG;subst ahy;have u23:=eY;have u22:=oR;have u36:=Tryz.underlying36;have z23:=jN;have z3:=iQ;have dG:(xs.map λa=>[a]).length=ae.length:=by rw[bJ];exact ff
 have Bz:=eT (bu::bC);clear hs gI dV w1 w3 w4 h1 h2 h3 h0 mO kok kb kg;generalize hS:bu::bC=S at *
 refine eg @yG @bK @eN ?_;refine bM.gen λe0 aV cY eV eO=>?_;have f6:e0.get 6=.list .nil 0 []:=by rw[aV];exact gS
 have f7:e0.get 7=.list .nil 0 []:=by rw[aV];exact gS
 have f10:e0.get 10=.list kz 1 (ints S):=by rw[aV];exact gS
 have f45:e0.get 45=.list k s (xs.map λa=>[a]):=by rw[aV];exact gS
 have f46:e0.get 46=.v (.int .i64 (ae.length:Nat)):=by rw[aV];exact gS
 have f47:e0.get 47=.v (.int .i64 (0:Nat)):=by rw[aV];exact gR
 have fd:e0.defers=[]:=by rw[cY];exact gS
 clear aV cY eV eO c1 c2 c3 c4 c5 l0 l1 bl blt hw d3 lz;refine de (λm e H=>∃(i:Nat) (t:Tok) (sz:Nat),i<=ae.length/\m=ae.length - i/\aq (Gr h H t)/\aq (sz=2∨(iP ((oT ae S).take i)=[]/\t=.nil))/\e.get 6=.list t sz (iP ((oT ae S).take i))/\e.get 7=.list .nil 0 []/\e.get 10=.list kz 1 (ints S)/\e.get 45=.list k s (xs.map λa=>[a])/\e.get 46=.v (.int .i64 (ae.length:Nat))/\e.get 47=.v (.int .i64 (i:Nat))/\e.defers=[]) ?_ ae.length _ _ ?_;rotate_left 1
 ·exact⟨0,.nil,0,df _,rfl,⟨Gr.nil (.push _ _) bD⟩,⟨.inr ⟨rfl,rfl⟩⟩,f6,f7,f10,f45,f46,f47,fd⟩
 clear f6 f7 f10 f45 f46 f47 fd;rintro m e H ⟨i,t,sz,hi,rfl,kG,ksz,g6,g7,g10,g45,g46,g47,hd⟩;by_cases az:i<ae.length
 ·have cK:s=1:=kk.out.1 (by intro q;rw[q] at az;simp at az);subst cK;obtain⟨a,iV⟩:∃a,xs[i]?=aa a:=⟨_,a9 ah⟩;obtain⟨r,hv⟩:∃r,ae[i]?=aa r:=⟨_,a9 az⟩;have ld:=oY (H:=H) (s:=1) iV;have VG:=kk.out.2.1 i a r iV hv;have DP:=kw.out r (ez hv);have c6:=aqm a (.list kz 1 (ints S)) r S VG ⟨_,_,rfl,λ_=>rfl⟩ ah (by have:=ks.out;omega);have ir:(i:Int)<(ae.length:Int):=by omega
  have ap:=Mc (T:=36) (r:=jY (((i:Nat):Int),oi r S)) u36 V0 aO (by unfold iP;rw[bJ,fb];omega) ksz.out kG.out.2.2;have kG2:=aq.mk kG.out.app;have e9:iP ((oT ae S).take i)++[jY (((i:Nat):Int),oi r S)]=iP ((oT ae S).take (i+1)):=by rw[gx (aeG hv)];unfold iP;simp
  rw[e9] at ap;clear iV hv VG DP e9;generalize oi r S=dv at *
  unfold im jY at *
  refine bW @yG @ck @acq @Sv ?_;exact⟨ae.length - (i+1),by omega,i+1,_,2,by omega,rfl,kG2,⟨.inl rfl⟩,by simp⟩
 have jz:i=ae.length:=by omega
 subst jz;rw[fK (by rw[MB];exact aJ _)] at g6 ksz;have kX:=aq.mk kG.out.1;have ko:=aq.mk kG.out.2.1;clear kG;refine bR @yG ?_;refine bM.gen λe0 aV cY eV eO=>?_;have f6:e0.get 6=.list t sz (iP (oT ae S)):=by rw[aV];simp only[gW,reduceIte,aY,aR];exact g6
 have f7:e0.get 7=.list .nil 0 []:=by rw[aV];simp only[gW,reduceIte,aY,aR];exact g7
 have f61:e0.get 61=.list kz 1 (ints S):=by rw[aV];exact gS
 have f62:e0.get 62=.v (.int .i64 (S.length:Nat)):=by rw[aV];exact gS
 have f63:e0.get 63=.v (.int .i64 (0:Nat)):=by rw[aV];exact gR
 have fd:e0.defers=[]:=by rw[cY];simp only[gW,reduceIte,aY,aR];exact hd
 clear aV cY eV eO g6 g7 g10 g45 g46 g47 hd;have hSl:S.length<=1001:=by rw[<-hS];simp;omega
 have e4:mo 4=0:=by unfold mo;rw[aD rL]
 clear hS;have cV:(bF S).length=S.length:=by unfold bF;simp
 refine de (λm e H2=>∃(j:Nat) (t2:Tok) (sz2:Nat),j<=S.length/\m=S.length - j/\aq (Gr h H2 t2)/\aq (sz2=1∨((bF S).take j=[]/\t2=.nil))/\e.get 6=.list t sz (iP (oT ae S))/\e.get 7=.list t2 sz2 (ints ((bF S).take j))/\e.get 61=.list kz 1 (ints S)/\e.get 62=.v (.int .i64 (S.length:Nat))/\e.get 63=.v (.int .i64 (j:Nat))/\e.defers=[]) ?_ S.length _ _ ?_;rotate_left 1
 ·exact⟨0,.nil,0,df _,rfl,⟨Gr.nil kX.out ko.out⟩,⟨.inr ⟨rfl,rfl⟩⟩,f6,f7,f61,f62,f63,fd⟩
 clear f6 f7 f61 f62 f63 fd;rintro m e H2 ⟨j,t2,sz2,hj,rfl,kG,ksz2,g6,g7,g61,g62,g63,hd⟩;by_cases qO:j<S.length
 ·have ld:=fP (H:=H2) (l:=S) (i:=j) (s:=1) qO;have c2:=Jf 4 (al S j);rw[e4,td rL] at c2;have hG:(4:Int).toNat=Gn:=rfl;rw[hG] at c2;have ir:(j:Int)<(S.length:Int):=by omega
  have hv:(bF S)[j]?=aa ((br Gn (al S j):Nat):Int):=by unfold bF;rw[eR,a9 qO,fx qO];rfl
  have ap:=y7 (x:=((br Gn (al S j):Nat):Int)) (es:=(bF S).take j) (by rw[fb];omega) ksz2.out kG.out.2.2;have kG2:=aq.mk kG.out.app;rw[<-gx hv] at ap;have bl:=rC ((br Gn (al S j):Nat):Int);clear hv hG;generalize ((br Gn (al S j):Nat):Int)=pv at *
  generalize al S j=sj at *
  unfold im at *
  refine cq @yG @ck ?_;exact⟨S.length - (j+1),by omega,j+1,_,1,by omega,rfl,kG2,⟨.inl rfl⟩,by simp⟩
 ·have tC:j=S.length:=by omega
  subst tC;rw[fK ah] at g7 ksz2;refine bR @yG ?_;refine⟨_,_,rfl,.inr ⟨kr.out,_,_,_,_,rfl,λq=>?_,?_⟩⟩
  ·rcases ksz.out with z|⟨z,-⟩
   ·exact z
   ·exact absurd (List.map_eq_nil_iff.1 z) q
  ·rcases ksz2.out with z|⟨z,-⟩
   ·exact z
   ·exfalso;have h1:=ks.out;have h2:(bF S).length=0:=(by rw[z];rfl);omega
def Ks:Tryz.f75.results.toList=[.tmp 2]:=aw
def cD(p:Pr):List AV:=[.v (.int .i64 p.aC),.v (.int .i64 p.no),.v (.int .i64 p.d),.v (.int .i64 p.e)]
def Cz:(gy aj 85).bind AV.bU=aa (cD ⟨0,0,0,0⟩):=aw
def AB:dm aj 85=aa 4:=aw
def Sb:fY aj 85=aa ai:=aw
def acr(a b c d):mF aj 85 [(0,.v (.int .i64 a)),(1,.v (.int .i64 b)),(2,.v (.int .i64 c)),(3,.v (.int .i64 d))]=aa (.agg (cD ⟨a,b,c,d⟩)):=aw
def AA{H:ao}(p):b8 aj (H.push (cD ⟨0,0,0,0⟩)) 85 (.ptr (.box H.boxes.length) 0) (.agg (cD p))=aa (H.push (cD p)):=jt rfl AB rfl rfl
def Cf{H}{b}{p}(hb:H.boxes[b]?=aa (cD p)):aF aj Gt H 85 (.ptr (.box b) 0)=aa (.agg (cD p)):=by rw[jj Sb AB hb (aJ 4)];rfl
def xm(ae:List (List Int))(ag:List Int):Bool:=decide (ae.length<=16)&&decide (dn ae ag=0)&&decide (bV ae<=16)
def aoZ(h:ao)(x y:AV)(ae:List (List Int))(ag:List Int)(hx:RL x ae)(hy:IL y ag):
 ∃r h',W5.call 75 [.agg [x,y]] h=aa (r,h')/\r=.ret (.v (.bool (xm ae ag))):=by
 have bx:=As hx hy;have c1:=λ(q:ae.length<=16)=>akZ x y ae ag hx hy ah;have c2:=Tc x y ae ag hx hy;have b0:=bp h [x,y];have l0:=vx b0;have l1:=vw b0;have ln:=hx.dN;have kv:aq (xm ae ag=(decide (ae.length<=16)&&decide (dn ae ag=0)&&decide (bV ae<=16))):=⟨rfl⟩;clear hx hy b0;generalize xm ae ag=res at *
 unfold im at *
 refine ec rfl Tryz.func75 rfl ?_;by_cases h1:ae.length<=16;rotate_left 1
 ·have d1:decide ((ae.length:Int)<=16)=ay:=cX ah;have kr:aq (res=ay):=⟨by rw[kv.out,cX h1];rfl⟩;clear h1 c1;refine eg @Ks @bK @eN ?_;exact⟨_,_,rfl,by rw[kr.out]⟩
 have d1:decide ((ae.length:Int)<=16)=ai:=cz ah;have c1:=c1 h1;by_cases h2:dn ae ag=0;rotate_left 1
 ·have d2:decide (dn ae ag=0)=ay:=cX h2;have kr:aq (res=ay):=⟨by rw[kv.out,d2];simp⟩;clear h1;generalize dn ae ag=q at *
  refine eg @Ks @bK @eN ?_;exact⟨_,_,rfl,by rw[kr.out]⟩
 rw[h2] at c1;by_cases h3:bV ae<=16
 ·have d3:decide (((bV ae:Nat):Int)<=16)=ai:=cz ah;have kr:aq (res=ai):=⟨by rw[kv.out,cz h1,cz h2,cz h3];rfl⟩;clear h1 h2 h3;refine eg @Ks @bK @eN ?_;exact⟨_,_,rfl,by rw[kr.out]⟩
 ·have d3:decide (((bV ae:Nat):Int)<=16)=ay:=cX ah;have kr:aq (res=ay):=⟨by rw[kv.out,cX h3];simp⟩;clear h1 h2 h3;refine eg @Ks @bK @eN ?_;exact⟨_,_,rfl,by rw[kr.out]⟩
def KS(n:Int):List AV:=[.v (.int .u32 n)]
def UL(x:AV)(l:List Int):Prop:=(∃k s,x=.list k s (l.map KS)/\(l≠[]->s=1))/\∀n∈l,0<=n/\n<4294967296
def Aq(ag ar:List Int)(p:Int × Int):List (Int × Int):=(ar.filter λn=>decide (n=al ag p.1.toNat)).map λ_=>p
def qk(ag ar:List Int)(l:List (Int × Int)):List (Int × Int):=l.flatMap (Aq ag ar)
def ajl{ag ar}{l:List (Int × Int)}{i}{p}(h:l[i]?=some p):qk ag ar (l.take (i+1))=qk ag ar (l.take i)++Aq ag ar p:=by unfold qk;rw[gx h,List.flatMap_append];simp
def aj7(ag ar)(p):(Aq ag ar p).length<=ar.length:=by unfold Aq;rw[bJ];exact List.length_filter_le _ _
def Pj(ag ar):∀l:List (Int × Int),(qk ag ar l).length<=l.length * ar.length
 | []=>by simp[qk]
 |p::l=>by
  have h1:=aj7 ag ar p;have h2:=Pj ag ar l;unfold qk at *
  rw[List.flatMap_cons,du,iJ,fW];omega
def aia{H}{l}{i s}{p}(h:l[i]?=aa p):aF aj Gt H 3 (.elem s (iP l) i 0)=aa (.v (.int .i64 p.1)):=by rw[r9 eM (row:=jY p) (by unfold iP;rw[eR,h];rfl)];rfl
def aib{H}{l}{i s}{p}(h:l[i]?=aa p):aF aj Gt H 3 (.elem s (iP l) i 1)=aa (.v (.int .i64 p.2)):=by rw[r9 eM (row:=jY p) (by unfold iP;rw[eR,h];rfl)];rfl
def Sa:fY aj 81=aa ai:=aw
def KP:dm aj 81=aa 2:=aw
def Wk{H}{l}{i s}{p}(h:l[i]?=aa p):aF aj Gt H 81 (.elem s (iP l) i 0)=aa (.agg [.v (.int .i64 p.1),.v (.int .i64 p.2)]):=by rw[JS Sa KP (row:=jY p) (by unfold iP;rw[eR,h];rfl) (aJ 2)];rfl
def zA{sz i}{es}:gi aj 81 (.elem sz es i 0) 0=aa (.elem sz es i 0):=aw
def Tz{sz i}{es}:gi aj 81 (.elem sz es i 0) 1=aa (.elem sz es i 1):=aw
def Qr(l):(iP l).length=l.length:=bJ _
def aoD(l)(p):iP l++[jY p]=iP (l++[p]):=by unfold iP;simp
def Kl:Tryz.f124.results.toList=[.tmp 4]:=aw
def PT:Tryz.f113.results.toList=[.tmp 4]:=aw
def Qd:Tryz.f71.results.toList=[.tmp 4]:=aw
def lH(l:List Pr):List (List AV):=l.map cD
def GS(l):(lH l).length=l.length:=bJ _
def PL(x:AV)(l:List Pr):Prop:=∃k s,x=.list k s (lH l)/\(l≠[]->s=4)
def D3{H}{l}{i s}{p}(h:l[i]?=aa p):aF aj Gt H 85 (.elem s (lH l) i 0)=aa (.agg (cD p)):=by rw[JS Sb AB (row:=cD p) (by unfold lH;rw[eR,h];rfl) (aJ 4)];rfl
def PL.dN{x}{l}(h:PL x l):dN aj 29 x=aa (.v (.int .i64 (l.length:Nat))):=by obtain⟨k,s,rfl,-⟩:=h;have u29:=LU;unfold Go.AE.dN;rw[u29];simp only[GS]
def ahK(g:bq)(aA:List AV)(p:Pr->Bool)(h:ao)(x:AV)(l:List Pr)(hx:PL x l)(hl:l.length<=1000000)
 (hp:∀q∈l,∀H,Ext h H->∃H',W5.call g (.agg (cD q)::aA) H=aa (.ret (.v (.bool (p q))),H')/\Ext H H'):
 ∃r h',W5.call 124 [x,.func (.func g) [] aA] h=aa (r,h')/\Ext h h'/\((l.find? p=au/\r=.ret (im (-1)))∨∃(i:Nat) (q:Pr),r=.ret (im (i:Nat))/\l[i]?=aa q/\l.find? p=aa q):=by
 obtain⟨k,s,rfl,hs⟩:=hx;have kp:=aq.mk (ax hp hs);clear hp hs;have u29:=LU;have z85:=AB;have dG:=GS l;unfold im;refine ec rfl Tryz.func124 rfl ?_;refine bR @Kl ?_;refine de (λm e H=>∃i:Nat,i<=l.length/\m=l.length - i/\aq ((l.take i).find? p=au)/\aq (Ext h H)/\e.get 0=.list k s (lH l)/\e.get 1=.func (.func g) [] aA/\e.get 7=.v (.int .i64 (l.length:Nat))/\e.get 8=.v (.int .i64 (i:Nat))/\e.defers=[]) ?_ l.length _ _ ?_;rotate_left 1
 ·refine⟨0,df _,rfl,⟨rfl⟩,⟨.refl _⟩,?_,?_,?_,?_,?_⟩<;>exact gR
 rintro m e H ⟨i,hi,rfl,ka,kX,g0,g1,g7,g8,hd⟩;by_cases az:i<l.length
 ·have cK:s=4:=kp.out.2 (by intro q;rw[q] at az;simp at az);subst cK;obtain⟨q,hq⟩:∃q,l[i]?=aa q:=⟨_,a9 az⟩;have ld:=D3 (H:=H) (s:=4) hq;obtain⟨H',hc,hX⟩:=kp.out.1 q (ez hq) H kX.out;have kX2:=aq.mk (kX.out.trans hX);have ir:(i:Int)<(l.length:Int):=by omega
  have kq:=aq.mk hq;have kt:=aq.mk (gx hq);clear hX hq;cases fm:p q with
  |true=>rw[fm] at hc;have U0:l.find? p=aa q:=(by have e:l=l.take i++q::l.drop (i+1):=(by rw[<-List.getElem_of_getElem? kq.out|>.2];simp);rw[e,aan,ka.out,List.find?_cons_of_pos fm];rfl);have kf:=aq.mk U0;clear U0 fm;refine eg @Kl @ck @jO.{0} ?_;exact⟨_,_,rfl,kX2.out,.inr ⟨i,q,rfl,kq.out,kf.out⟩⟩
  |false=>rw[fm] at hc;have kt2:aq ((l.take (i+1)).find? p=au):=⟨by rw[kt.out,aan,ka.out];simp[fm]⟩;clear fm;refine eg @Kl @ck @jO.{0} ?_;exact⟨l.length - (i+1),by omega,i+1,by omega,rfl,kt2,by first|exact kX2|trivial,by simp⟩
 ·have:i=l.length:=by omega
  subst this;have:=ka.out;rw[gM] at this;have kan:=aq.mk this;clear this;refine bR @Kl ?_;exact⟨_,_,rfl,kX.out,.inl ⟨kan.out,rfl⟩⟩
def MW{a b}(ha:elem a=ai)(hb:elem b=ai):jy ((a:Nat):Int) ((b:Nat):Int)=((a * b%P:Nat):Int):=by rw[Dp (uX ha) (uX hb),dS,dS]
def GZ{α:Type}{f:α->Nat}:∀{l:List α} (_:∀p∈l,elem (f p)=ai) {k:Nat} (_:elem k=ai),elem (l.foldl (λx p=>x * f p%P) k)=ai
 | [],_,_,hk=>hk
 |a::l,h,k,hk=>GZ (l:=l) (λp hp=>h p (fR _ hp)) (FI hk (h a ga))
def akE(g:bq)(first aA:List AV)(f:Pr->Nat)(h:ao)(x:AV)(l:List Pr)(hx:PL x l)(hl:l.length<=1000000)(he:∀q∈l,elem (f q)=ai)
 (hp:∀q∈l,∀H,Ext h H->∃H',W5.call g (first++[.agg (cD q)]++aA) H=aa (.ret (im (f q:Nat)),H')/\Ext H H'):
 ∃r h',W5.call 113 [x,.func (.func g) first aA] h=aa (r,h')/\Ext h h'/\r=.ret (im ((l.foldl (λx q=>x * f q%P) 1:Nat):Int)):=by
 obtain⟨k,s,rfl,hs⟩:=hx;have kp:=aq.mk (ax hp (ax hs he));clear hp hs he;have u29:=LU;have z85:=AB;have zc:=Cz;have dG:=GS l;unfold im;refine ec rfl Tryz.func113 rfl ?_;refine bR @PT ?_;refine de (λm e H=>∃i:Nat,i<=l.length/\m=l.length - i/\aq (Ext h H)/\e.get 1=.func (.func g) first aA/\e.get 5=.v (.int .i64 (((l.take i).foldl (λx q=>x * f q%P) 1:Nat):Int))/\e.get 8=.list k s (lH l)/\e.get 9=.v (.int .i64 (l.length:Nat))/\e.get 10=.v (.int .i64 (i:Nat))/\e.defers=[]) ?_ l.length _ _ ?_;rotate_left 1
 ·refine⟨0,df _,rfl,⟨.refl _⟩,?_,?_,?_,?_,?_,?_⟩<;>exact gR
 rintro m e H ⟨i,hi,rfl,kX,g1,g5,g8,g9,g10,hd⟩;by_cases az:i<l.length
 ·have cK:s=4:=kp.out.2.1 (by intro q;rw[q] at az;simp at az);subst cK;obtain⟨q,hq⟩:∃q,l[i]?=aa q:=⟨_,a9 az⟩;have hm:=ez hq;have ld:=D3 (H:=H) (s:=4) hq;have st:=AA (H:=H) q;have l2:=Cf (bp H (cD q));obtain⟨H',hc,hX⟩:=kp.out.1 q hm (H.push (cD q)) (kX.out.trans (.push _ _));have kX2:=aq.mk ((kX.out.trans (.push H (cD q))).trans hX);have ir:(i:Int)<(l.length:Int):=by omega
  have eacc:elem ((l.take i).foldl (λx q=>x * f q%P) 1)=ai:=GZ (λp hp=>kp.out.2.2 p (pS hp)) Di;have c2:=Dq (((l.take i).foldl (λx q=>x * f q%P) 1:Nat):Int) ((f q:Nat):Int);have e2:nf (((l.take i).foldl (λx q=>x * f q%P) 1:Nat):Int) ((f q:Nat):Int)=0:=by unfold nf;rw[aD ⟨uX eacc,uX (kp.out.2.2 q hm)⟩]
  have e3:(l.take i).foldl (λx q=>x * f q%P) 1 * f q%P=(l.take (i+1)).foldl (λx q=>x * f q%P) 1:=by rw[gx hq,oL];rfl
  rw[MW eacc (kp.out.2.2 q hm),e2,e3] at c2;clear hX hq e2 e3 eacc hm;generalize (l.take i).foldl (λx q=>x * f q%P) 1=acc at *
  generalize FO:(l.take (i+1)).foldl (λx q=>x * f q%P) 1=RY at *
  have kA:=aq.mk FO;clear FO;generalize f q=fq at *
  unfold im at *
  refine eg @PT @ck @jO.{0} ?_;exact⟨l.length - (i+1),by omega,i+1,by omega,rfl,by first|exact kX2|trivial,by simp[kA.out]⟩
 ·have:i=l.length:=by omega
  subst this;rw[gM] at g5;refine bR @PT ?_;exact⟨_,_,rfl,kX.out,rfl⟩
def akF(g:bq)(first aA:List AV)(f:Int->Nat)(h:ao)(x:AV)(l:List Int)(hx:IL x l)(hl:l.length<=1000000)(he:∀q∈l,elem (f q)=ai)
 (hp:∀q∈l,∀H,Ext h H->∃H',W5.call g (first++[im q]++aA) H=aa (.ret (im (f q:Nat)),H')/\Ext H H'):
 ∃r h',W5.call 71 [x,.func (.func g) first aA] h=aa (r,h')/\Ext h h'/\r=.ret (im ((l.foldl (λx q=>x * f q%P) 1:Nat):Int)):=by
 obtain⟨k,s,rfl,hs⟩:=hx;have kp:=aq.mk (ax hp (ax hs he));clear hp hs he;have u23:=eY;have z3:=iQ;have dG:=eT l;unfold im;refine ec rfl Tryz.func71 rfl ?_;refine bR @Qd ?_;refine de (λm e H=>∃i:Nat,i<=l.length/\m=l.length - i/\aq (Ext h H)/\e.get 1=.func (.func g) first aA/\e.get 5=.v (.int .i64 (((l.take i).foldl (λx q=>x * f q%P) 1:Nat):Int))/\e.get 8=.list k s (ints l)/\e.get 9=.v (.int .i64 (l.length:Nat))/\e.get 10=.v (.int .i64 (i:Nat))/\e.defers=[]) ?_ l.length _ _ ?_;rotate_left 1
 ·refine⟨0,df _,rfl,⟨.refl _⟩,?_,?_,?_,?_,?_,?_⟩<;>exact gR
 rintro m e H ⟨i,hi,rfl,kX,g1,g5,g8,g9,g10,hd⟩;by_cases az:i<l.length
 ·have cK:s=1:=kp.out.2.1 (by intro q;rw[q] at az;simp at az);subst cK;have hq:l[i]?=aa (al l i):=by rw[a9 az,fx az]
  have hm:=ez hq;have ld:=fP (H:=H) (s:=1) az;generalize al l i=q at *
  obtain⟨H',hc,hX⟩:=kp.out.1 q hm H kX.out;unfold im at hc;have kX2:=aq.mk (kX.out.trans hX);have ir:(i:Int)<(l.length:Int):=by omega
  have eacc:elem ((l.take i).foldl (λx q=>x * f q%P) 1)=ai:=GZ (λp hp=>kp.out.2.2 p (pS hp)) Di;have c2:=Dq (((l.take i).foldl (λx q=>x * f q%P) 1:Nat):Int) ((f q:Nat):Int);have e2:nf (((l.take i).foldl (λx q=>x * f q%P) 1:Nat):Int) ((f q:Nat):Int)=0:=by unfold nf;rw[aD ⟨uX eacc,uX (kp.out.2.2 q hm)⟩]
  have e3:(l.take i).foldl (λx q=>x * f q%P) 1 * f q%P=(l.take (i+1)).foldl (λx q=>x * f q%P) 1:=by rw[gx hq,oL];rfl
  rw[MW eacc (kp.out.2.2 q hm),e2,e3] at c2;clear hX hq e2 e3 eacc hm;generalize (l.take i).foldl (λx q=>x * f q%P) 1=acc at *
  generalize FO:(l.take (i+1)).foldl (λx q=>x * f q%P) 1=RY at *
  have kA:=aq.mk FO;clear FO;generalize f q=fq at *
  unfold im at *
  refine eg @Qd @ck @jO.{0} ?_;exact⟨l.length - (i+1),by omega,i+1,by omega,rfl,by first|exact kX2|trivial,by simp[kA.out]⟩
 ·have:i=l.length:=by omega
  subst this;rw[gM] at g5;refine bR @Qd ?_;exact⟨_,_,rfl,kX.out,rfl⟩
def Au:Tryz.f111.results.toList=[.tmp 2]:=aw
def anf:Tryz.f161.results.toList=[.tmp 2]:=aw
def Ye:Tryz.f49.results.toList=[.tmp 4]:=aw
def Kr:Tryz.f70.results.toList=[.tmp 4]:=aw
def zy{b}:gi aj 27 (.ptr (.box b) 0) 0=aa (.ptr (.box b) 0):=aw
def kj{b}:gi aj 27 (.ptr (.box b) 0) 1=aa (.ptr (.box b) 1):=aw
def ml{b}:gi aj 27 (.ptr (.box b) 0) 2=aa (.ptr (.box b) 3):=aw
def zx{b}:gi aj 25 (.ptr (.box b) 1) 0=aa (.ptr (.box b) 1):=aw
def aff{b}:gi aj 25 (.ptr (.box b) 1) 1=aa (.ptr (.box b) 2):=aw
def qH:(∀b,gi aj 98 (.ptr (.box b) 0) 0=aa (.ptr (.box b) 0))/\(∀b,gi aj 98 (.ptr (.box b) 0) 1=aa (.ptr (.box b) 4))/\(∀b,gi aj 98 (.ptr (.box b) 0) 2=aa (.ptr (.box b) 5))/\(∀b,gi aj 98 (.ptr (.box b) 0) 3=aa (.ptr (.box b) 6))/\
 (∀b,gi aj 98 (.ptr (.box b) 0) 4=aa (.ptr (.box b) 7))/\(∀b,gi aj 98 (.ptr (.box b) 0) 5=aa (.ptr (.box b) 11))/\∀b,gi aj 98 (.ptr (.box b) 0) 6=aa (.ptr (.box b) 12):=
 ⟨λ_=>aw,λ_=>aw,λ_=>aw,λ_=>aw,λ_=>aw,λ_=>aw,λ_=>aw⟩
def Ty{b}:gi aj 96 (.ptr (.box b) 7) 3=aa (.ptr (.box b) 10):=aw
def jx:(∀b,gi aj 85 (.ptr (.box b) 0) 0=aa (.ptr (.box b) 0))/\(∀b,gi aj 85 (.ptr (.box b) 0) 1=aa (.ptr (.box b) 1))/\(∀b,gi aj 85 (.ptr (.box b) 0) 2=aa (.ptr (.box b) 2))/\∀b,gi aj 85 (.ptr (.box b) 0) 3=aa (.ptr (.box b) 3):=
 ⟨λ_=>aw,λ_=>aw,λ_=>aw,λ_=>aw⟩
def cI{H}{t}{b j}{cs}{x}(ha:fY aj t=aa ay)(hb:H.boxes[b]?=aa cs)(hj:cs[j]?=aa x):aF aj Gt H t (.ptr (.box b) j)=aa x:=by rw[ma ha hb,List.head?_drop,hj]
def IA:fY aj 28=aa ay:=aw
def xO:fY aj 29=aa ay:=aw
def v9:fY aj 90=aa ay:=aw
def cB(ep:Int)(X Y C:AV):List AV:=[.v (.int .i64 ep),X,Y,C]
def gL(ep:Int)(X Y C T L Wt All:AV)(pt ch:Int):List AV:=[.v (.int .i64 ep),X,Y,C,T,L,Wt,.v (.int .i64 3),.v (.int .i64 0),sv [],All,.v (.int .i64 pt),.v (.int .i64 ch)]
def qj(ae:List (List Int))(ep:Int)(av:List Int):Bool:=decide (0<=ep)&&decide (ep<=64)&&decide (av.length=bV ae)&&av.all b9
def aqG(n)(h):W5.call 161 [im n] h=aa (.ret (.v (.bool (!b9 n))),h):=by
 have c:=KV n;unfold im at *
 refine cN rfl Tryz.func161 rfl ?_;exact mJ @anf
def yx{ep}{X Y C}{ae}{ag av}(hx:RL X ae)(hy:IL Y ag)(hc:IL C av):(AV.agg (cB ep X Y C)).bU=aa (cB ep X Y C):=by obtain⟨k,s,xs,rfl,-⟩:=hx.form;obtain⟨ky,sy,rfl,-⟩:=hy;obtain⟨kc,sc,rfl,-⟩:=hc;rfl
def alK(h:ao)(ep:Int)(X Y C:AV)(ae:List (List Int))(ag av:List Int)(hx:RL X ae)(hy:IL Y ag)(hc:IL C av)(hl:av.length<=1000000):
 ∃r h',W5.call 111 [.agg (cB ep X Y C)] h=aa (r,h')/\h'=h.push (cB ep X Y C)/\r=.ret (.v (.bool (qj ae ep av))):=by
 have bx:=yx (ep:=ep) hx hy hc;have b0:=bp h (cB ep X Y C);have l0:aF aj Gt (h.push (cB ep X Y C)) 3 (.ptr (.box h.boxes.length) 0)=aa (.v (.int .i64 ep)):=cI eM b0 rfl;have l1:aF aj Gt (h.push (cB ep X Y C)) 22 (.ptr (.box h.boxes.length) 1)=aa X:=cI LX b0 rfl;have l3:aF aj Gt (h.push (cB ep X Y C)) 23 (.ptr (.box h.boxes.length) 3)=aa C:=cI mW b0 rfl;have ln:=hx.dN;have lc:=hc.dN;have cc:=IP (pr:=Ej) rfl rfl 161 [] (λn=> !b9 n) (h.push (cB ep X Y C)) C av hc hl (λn _=>aqG n _);rw[Se] at cc;have kv:aq (qj ae ep av=(decide (0<=ep)&&decide (ep<=64)&&decide (av.length=bV ae)&&av.all b9)):=⟨rfl⟩;generalize qj ae ep av=res at *
 obtain⟨k,s,xs,rfl,hs,ff,gI⟩:=hx;have kk:=aq.mk (ax hs gI);have u23:=eY;have u22:=oR;have z23:=jN;have dG:(xs.map λa=>[a]).length=ae.length:=by rw[bJ];exact ff
 clear hs gI hc hy b0;have kcols:aq (ae.length=0->bV ae=1):=⟨λq=>by unfold bV;rw[aD q]⟩;have kcols2:aq (∀r0,ae[0]?=aa r0->bV ae=r0.length):=⟨λr0 q=>by unfold bV;rw[aG (by have:=(aQ.1 q).1;omega),eQ,q];rfl⟩;refine ec rfl Tryz.func111 rfl ?_;have fin:∀n:Nat,bV ae=n->aq (res=(decide (0<=ep)&&decide (ep<=64)&&decide (av.length=n)&&av.all b9)):=λn q=>⟨by rw[kv.out,q]⟩;have eZ:=aq.mk fin;clear fin;rcases Fa ae.length with h0|h0
 ·have hq:¬((0:Int)<(ae.length:Int)):=by omega
  have kf:=eZ.out _ (kcols.out h0);clear h0;clear kcols kcols2 eZ kv;by_cases h1:0<=ep;rotate_left 1
  ·have d1:decide (0<=ep)=ay:=cX h1;have kr:aq (res=ay):=⟨by rw[kf.out,d1];rfl⟩;clear h1 cc;refine bW @Au @bK @zy (ax @kj (ax @ml (ax @zx @ck))) ?_;exact⟨_,_,rfl,rfl,by rw[kr.out]⟩
  have d1:decide (0<=ep)=ai:=cz h1;by_cases h2:ep<=64;rotate_left 1
  ·have d2:decide (ep<=64)=ay:=cX h2;have kr:aq (res=ay):=⟨by rw[kf.out,d2];simp⟩;clear h1 h2 cc;refine bW @Au @bK @zy (ax @kj (ax @ml (ax @zx @ck))) ?_;exact⟨_,_,rfl,rfl,by rw[kr.out]⟩
  have d2:decide (ep<=64)=ai:=cz h2;by_cases h3:av.length=1;rotate_left 1
  ·have d3:decide ((av.length:Int)=1)=ay:=cX ah;have kr:aq (res=ay):=⟨by rw[kf.out,cX h3];simp⟩;clear h1 h2 h3 cc;refine bW @Au @bK @zy (ax @kj (ax @ml (ax @zx @ck))) ?_;exact⟨_,_,rfl,rfl,by rw[kr.out]⟩
  have d3:decide ((av.length:Int)=1)=ai:=cz ah;have kr:aq (res=av.all b9):=⟨by rw[kf.out,d1,d2,cz h3];rfl⟩;have BJ:(!!av.all b9)=av.all b9:=by simp
  clear h1 h2 h3;refine bW @Au @bK @zy (ax @kj (ax @ml (ax @zx @ck))) ?_;exact⟨_,_,rfl,rfl,by rw[kr.out]⟩
 ·have hq:((0:Int)<(ae.length:Int)):=by omega
  have cK:s=1:=kk.out.1 (by intro q;rw[q] at h0;simp at h0);subst cK;obtain⟨a0,jd⟩:∃a,xs[0]?=aa a:=⟨_,a9 ah⟩;obtain⟨r0,iN⟩:∃r,ae[0]?=aa r:=⟨_,a9 ah⟩;have ld0:=oY (H:=h.push (cB ep (.list k 1 (xs.map λa=>[a])) Y C)) (s:=1) jd;obtain⟨ka0,sa0,rfl,um⟩:=kk.out.2 0 a0 r0 jd iN;have kf:=eZ.out _ (kcols2.out r0 iN);have ej:=eT r0;have z0:(0:Int).toNat=0:=rfl;generalize r0.length=N at *
  clear jd iN um h0;clear kcols kcols2 eZ kv;by_cases h1:0<=ep;rotate_left 1
  ·have d1:decide (0<=ep)=ay:=cX h1;have kr:aq (res=ay):=⟨by rw[kf.out,d1];rfl⟩;clear h1 cc;refine bW @Au @bK @zy (ax @kj (ax @ml (ax @zx @ck))) ?_;exact⟨_,_,rfl,rfl,by rw[kr.out]⟩
  have d1:decide (0<=ep)=ai:=cz h1;by_cases h2:ep<=64;rotate_left 1
  ·have d2:decide (ep<=64)=ay:=cX h2;have kr:aq (res=ay):=⟨by rw[kf.out,d2];simp⟩;clear h1 h2 cc;refine bW @Au @bK @zy (ax @kj (ax @ml (ax @zx @ck))) ?_;exact⟨_,_,rfl,rfl,by rw[kr.out]⟩
  have d2:decide (ep<=64)=ai:=cz h2;by_cases h3:av.length=N;rotate_left 1
  ·have d3:decide ((av.length:Int)=(N:Int))=ay:=cX ah;have kr:aq (res=ay):=⟨by rw[kf.out,cX h3];simp⟩;clear h1 h2 h3 cc;refine bW @Au @bK @zy (ax @kj (ax @ml (ax @zx @ck))) ?_;exact⟨_,_,rfl,rfl,by rw[kr.out]⟩
  have d3:decide ((av.length:Int)=(N:Int))=ai:=cz ah;have kr:aq (res=av.all b9):=⟨by rw[kf.out,d1,d2,cz h3];rfl⟩;have BJ:(!!av.all b9)=av.all b9:=by simp
  clear h1 h2 h3;refine bW @Au @bK @zy (ax @kj (ax @ml (ax @zx @ck))) ?_;exact⟨_,_,rfl,rfl,by rw[kr.out]⟩
structure uO(H:ao)(c:Nat)(ep:Int)(X Y C T L Wt:AV)(pt ch:Int)(av:List Int)(text:List UInt8)(l:List Pr):Prop where
 eu:∃(b:Nat) (ae:List (List AV)),H.boxes[c]?=aa (gL ep X Y C T L Wt (.arr b 0 ae.length ae.length) pt ch)/\H.boxes[b]?=aa ae.flatten/\pq (l.map Pr.val) ae
 My:IL C av
 pos:0<av.length
 c0:0<=al av 0/\al av 0<=4611686018427387903
 Cw:∃kt st,T=.list kt st (aX text)/\(text≠[]->st=1)
 tl:text.length<=65536
 ll:l.length<=64
def uO.mono{H H'}{c}{ep}{X Y C T L Wt}{pt ch}{av}{text}{l}(w:uO H c ep X Y C T L Wt pt ch av text l)(x:Ext H H'):uO H' c ep X Y C T L Wt pt ch av text l:=by obtain⟨b,ae,h1,h2,h3⟩:=w.eu;exact⟨⟨b,ae,x.box _ _ h1,x.box _ _ h2,h3⟩,w.My,w.pos,w.c0,w.Cw,w.tl,w.ll⟩
def aqD(l:List Pr):gO (l.map Pr.val)<=1:=by
 induction l with
 |nil=>simp[gO]|cons p l ih=>
  rw[ev,gO];have:gg p.val=1:=by simp[Pr.val,gg,gO]
  omega
def aqE(p:Pr):(dM p.val).length<=100:=by
 have h0:=nP 9 (0+1+1+1+1);have h1:=nP 9 (kU p.aC);have h2:=nP 9 (kU p.no);have h3:=nP 9 (kU p.d);have h4:=nP 9 (kU p.e);simp only[Pr.val,dM,iC,iJ,du,jP] at *
 omega
def Zn:∀l:List Pr,(iC (l.map Pr.val)).length<=l.length * 100
 | []=>by simp[iC]
 |p::l=>by have h1:=aqE p;have h2:=Zn l;rw[ev,iC,du,iJ,fW];omega
def acQ(c0)(text)(l)(k):(dM (.list [.int c0,.text text,Eg l,.int k])).length<=100+text.length+l.length * 100:=by
 have h0:=nP 9 (0+1+1+1+1);have h1:=nP 9 (kU c0);have h2:=nP 9 text.length;have h3:=nP 9 (kU k);have h4:=nP 9 (l.map Pr.val).length;have h5:=Zn l;simp only[Eg,dM,iC,iJ,du,jP] at *
 omega
def Mp(t u v w)(x y z q):gN aj 180 4 [(0,.iface t x),(1,.iface u y),(2,.iface v z),(3,.iface w q)]=aa (.list .tight 1 [[.iface t x],[.iface u y],[.iface v z],[.iface w q]]):=aw
def Ml(H:ao)(c:Nat)(ep:Int)(X Y C T L Wt:AV)(pt ch:Int)(av:List Int)(text:List UInt8)(l:List Pr)(w:uO H c ep X Y C T L Wt pt ch av text l)(q:Pr)(hk:0<=q.aC/\q.aC<=4611686018427387903):
 ∃r H',W5.call 49 [.ptr (.box c) 0,.agg (cD q)] H=aa (r,H')/\H'=H.push (cD q)/\r=.ret (im ((gF (al av 0) text l q.aC:Nat):Int)):=by
 have w2:=w.mono (.push H (cD q));obtain⟨b,ae,h1,h2,h3⟩:=w2.eu;obtain⟨kc,sc,rfl,DR⟩:=w.My;obtain⟨kt,st,rfl,cd⟩:=w.Cw;have mq:=w.pos;have ahs:sc=1:=DR (by intro e;rw[e] at mq;simp at mq);subst ahs;have dy:ae.length<=64:=by have:=h3.1;rw[bJ] at this;have:=w.ll;omega
 have bl:=acQ (al av 0) text l q.aC;have hd:=aqD l;have hh:=UG (H.push (cD q)) Kz .tight 1 [.iface 3 (.v (.int .i64 (al av 0))),.iface 28 (.list kt st (aX text)),.iface 96 (.agg (im 3::im 0::sv []::[.arr b 0 ae.length ae.length])),.iface 3 (.v (.int .i64 q.aC))] [.int (al av 0),.text text,Eg l,.int q.aC]
  (.cons (.int _ w.c0) (.cons (.text kt st text cd (by have:=w.tl;omega)) (.cons (.list h2 h3 ah) (.cons (.int _ hk) .nil)))) (λ_=>rfl) bG aO (by simp[Eg,gg,gO];omega) (by have:=w.tl;have:=w.ll;omega)
 have wH:tq Kz (.list [.int (al av 0),.text text,Eg l,.int q.aC])=gF (al av 0) text l q.aC:=rfl;rw[wH] at hh;rw[show Kz=[98,105,110,100] from rfl] at hh;generalize gF (al av 0) text l q.aC=bn at *
 have b0:=bp H (cD q);have l0:aF aj Gt (H.push (cD q)) 3 (.ptr (.box H.boxes.length) 0)=aa (.v (.int .i64 q.aC)):=cI eM b0 rfl;have l1:aF aj Gt (H.push (cD q)) 23 (.ptr (.box c) 3)=aa (.list kc 1 (ints av)):=cI mW h1 rfl;have l2:aF aj Gt (H.push (cD q)) 28 (.ptr (.box c) 4)=aa (.list kt st (aX text)):=cI IA h1 rfl;have l3:aF aj Gt (H.push (cD q)) 96 (.ptr (.box c) 7)=aa (.agg [im 3,im 0,sv [],.arr b 0 ae.length ae.length]):=by rw[jj LZ rp h1 (lN rfl)];rfl
 have l4:=fP (H:=H.push (cD q)) (l:=av) (i:=0) (s:=1) mq;have bc:(AV.agg (cD q)).bU=aa (cD q):=rfl;have dG:=eT av;have u23:=eY;have z3:=iQ;have ahm:(0:Int)<(av.length:Int):=by omega
 have z0:(0:Int).toNat=0:=rfl;simp only[ev,uN] at hh;clear w w2 h1 h2 h3 DR cd wH bl hd b0 mq;generalize al av 0=c0 at *
 unfold im at *
 refine ec rfl Tryz.func49 rfl ?_;refine cq @Ye @bK ?_;refine fQ nH aw ?_;refine bW @Ye @qH @ml (ax @jx (ax @ck (ax @GD (ax @OE (ax @ahH @Mp))))) ?_;exact⟨_,_,rfl,rfl,rfl⟩
def acR(c0)(text)(l)(k):okF ((gF c0 text l k:Nat):Int):=UI _ _
def WL(H:ao)(c:Nat)(ep:Int)(X Y C T L Wt:AV)(pt ch:Int)(av:List Int)(text:List UInt8)(l:List Pr)(w:uO H c ep X Y C T L Wt pt ch av text l)(q:Pr)(hk:0<=q.aC/\q.aC<=4611686018427387903)(hd:b9 q.d=ai)(he:b9 q.e=ai):
 ∃r H',W5.call 70 [.ptr (.box c) 0,.agg (cD q)] H=aa (r,H')/\Ext H H'/\r=.ret (im ((qX (al av 0) text l q:Nat):Int)):=by
 obtain⟨_,H2,c1,rfl,rfl⟩:=Ml (H.push (cD q)) c ep X Y C T L Wt pt ch av text l (w.mono (.push _ _)) q hk;have hb:=acR (al av 0) text l q.aC;have c2:=GY q.e ((gF (al av 0) text l q.aC:Nat):Int);have c3:=Dq q.d (eU q.e ((gF (al av 0) text l q.aC:Nat):Int));have hN:jy q.d (eU q.e ((gF (al av 0) text l q.aC:Nat):Int))=((qX (al av 0) text l q:Nat):Int):=by rw[Dp hd (uW he _),td he];unfold qX;rw[dS];unfold gF;rw[Pz]
 rw[hN] at c3;generalize qX (al av 0) text l q=nn at *
 generalize ((gF (al av 0) text l q.aC:Nat):Int)=bn at *
 generalize eU q.e bn=pw at *
 have b0:=bp H (cD q);have b1:((H.push (cD q)).push (cD q)).boxes[H.boxes.length]?=aa (cD q):=aZ b0;have l0:aF aj Gt (H.push (cD q)) 3 (.ptr (.box H.boxes.length) 2)=aa (.v (.int .i64 q.d)):=cI eM b0 rfl;have l1:aF aj Gt (H.push (cD q)) 3 (.ptr (.box H.boxes.length) 3)=aa (.v (.int .i64 q.e)):=cI eM b0 rfl;have l2:=Cf b0;have l0b:aF aj Gt ((H.push (cD q)).push (cD q)) 3 (.ptr (.box H.boxes.length) 2)=aa (.v (.int .i64 q.d)):=cI eM b1 rfl;have l1b:aF aj Gt ((H.push (cD q)).push (cD q)) 3 (.ptr (.box H.boxes.length) 3)=aa (.v (.int .i64 q.e)):=cI eM b1 rfl;have bc:(AV.agg (cD q)).bU=aa (cD q):=rfl;clear w hb hN b0 b1;unfold im at *
 refine ec rfl Tryz.func70 rfl ?_;refine cq @Kr @bK ?_;refine oG [(1,6),(3,6)] nH aw (λp hp=>?_) ?_
 ·simp only[jm,AN,or_false] at hp;rcases hp with rfl|rfl
  ·refine yH (x:=.ptr (.box H.boxes.length) 2) (v:=.v (.int .i64 q.d)) aw rfl rfl rfl aw (by simp[fC,me]) ?_ ?_<;>(simp only[iK,gm];exact qM @Kr @jx @and_self)
  ·refine yH (x:=.ptr (.box H.boxes.length) 3) (v:=.v (.int .i64 q.e)) aw rfl rfl rfl aw (by simp[fC,me]) ?_ ?_<;>(simp only[iK,gm];exact qM @Kr @jx @and_self)
 refine cq @Kr @jx ?_;exact⟨_,_,rfl,(Ext.push _ _).trans (Ext.push _ _),rfl⟩
end Go.Proofs.YtnfciiiohoafaaaGreatDoor
end
section
set_option linter.constructorNameAsVariable false
namespace Go.Proofs.YtnfciiiohoafaaaGreatDoor
open Go.AE Go.NT
def nQ:Tryz.f48.results.toList=[.tmp 6,.tmp 7]:=aw
def yU(H:ao)(c base:Nat)(cur:AV)(vs:List Vl):Prop:=(vs=[]/\cur=.list .nil 0 [])∨(vs≠[]/\∃(b:Nat) (ae:List (List AV)),cur=.arr b 0 ae.length ae.length/\H.boxes[b]?=aa ae.flatten/\pq vs ae/\b≠c/\base<=b)
def yU.dN{H}{c base}{cur}{vs}(q:yU H c base cur vs):dN aj 94 cur=aa (.v (.int .i64 (vs.length:Nat))):=by
 have u94:=qD;unfold Go.AE.dN;rw[u94];rcases q with⟨rfl,rfl⟩|⟨-,b,ae,rfl,-,h3,-⟩
 ·rfl
 ·simp only[h3.1]
def yU.dW{H}{c base}{cur}{vs}(q:yU H c base cur vs):cur.dW=ai:=by rcases q with⟨rfl,rfl⟩|⟨-,b,ae,rfl,-⟩<;>rfl
def sJ:List AV:=bf 0 0 [] .nil 0 []
def pq.four{vs}{ae}(h:pq vs ae):∀r∈ae,r.length=4:=λr hr=>by obtain⟨i,hi⟩:=vT hr;have dG:=(aQ.1 hi).1;exact(h.2 i _ r (a9 (by rw[<-h.1];exact dG)) hi).len
def pq.snoc{vs}{ae}(h:pq vs ae){v}{r}(hv:dh v r):pq (vs++[v]) (ae++[r]):=by
 refine⟨by simp[h.1],λi w x hw hx=>?_⟩;rcases dT i ae.length with az|eo
 ·rw[ru az] at hx;rw[ru (by rw[<-h.1];exact az)] at hw;exact h.2 i w x hw hx
 ·have:=(aQ.1 hx).1;rw[du] at this;have he:i=ae.length:=by simp at this;omega
  subst he;rw[EU] at hx;rw[h.1,EU] at hw;injection hx with hx;injection hw with hw;subst hx;subst hw;exact hv
def yU.more{h0 H}{c base}{cur}{vs}(q:yU H c base cur vs)(hx:Ext h0 H)(uf:h0.boxes.length<=base)(hc:c<H.boxes.length)(jr:base<=H.boxes.length)(hl:vs.length<1000000){v}{r}(hv:dh v r):
 ∃H2,sI aj H #[94,94] cur (.list .tight 4 [sJ])=aa (.arr H.boxes.length 0 (vs.length+1) (vs.length+1),H2)/\H2.boxes.length=H.boxes.length+1/\H2.tn=H.tn/\H2.dead=H.dead/\Ext h0 H2/\
  dx aj 94 (.arr H.boxes.length 0 (vs.length+1) (vs.length+1)) (.v (.int .i64 (vs.length:Nat)))=aa (.ptr (.box H.boxes.length) (vs.length * 4))/\
  (∀(a:Nat) (cs:List AV),H.boxes[a]?=aa cs->(a<base∨a=c)->H2.boxes[a]?=aa cs)/\
  ∃cs,b8 aj H2 96 (.ptr (.box H.boxes.length) (vs.length * 4)) (.agg r)=aa (H2.put H.boxes.length cs)/\
  ∀H3,H3.boxes[H.boxes.length]?=aa cs->yU H3 c base (.arr H.boxes.length 0 (vs.length+1) (vs.length+1)) (vs++[v]):=by
 obtain⟨i,q1,q2,q3,q4⟩:=V1;have vg:=ry (ah:vs.length+1<=1000000) q3;have u94:=qD;have rW:=hv.len;have U6:dx aj 94 (.arr H.boxes.length 0 (vs.length+1) (vs.length+1)) (.v (.int .i64 (vs.length:Nat)))=aa (.ptr (.box H.boxes.length) (vs.length * 4)):=by unfold dx;simp only[u94,rp];rw[aD ⟨ah,by omega⟩];simp
 rcases q with⟨rfl,rfl⟩|⟨bE,b,ae,rfl,h1,h2,h3,h4⟩
 ·have:=QM (h:=H) (k:=.nil) (sz:=0) (es:=[]) (new:=[sJ]) (x:=.list .tight 4 [sJ]) qD qD q1 ah (by rw[q2];exact q4) bG (by simp;omega) bG (.inr rfl) (.inl rfl) (by rw[q2];rfl);refine⟨_,this,cH _ _,rfl,rfl,hx.trans (.push _ _),U6,λa cs ha _=>aZ ha,r,?_,λH3 h3=>.inr ⟨bG,H.boxes.length,[r],rfl,by rw[h3];simp,pq.snoc (vs:=[]) (ae:=[]) ⟨rfl,λi v r q=>by simp at q⟩ hv,by omega,jr⟩⟩;have hg:(H.push ([]++[sJ]).flatten).boxes[H.boxes.length]?=aa sJ:=bp _ _;exact(fw (off:=0) (cs:=sJ) (xs:=r) hv.cells rp hg rW (aJ 4)).trans (by rw[xn (by rw[rW];rfl)])
 ·have hf:=na h2.four;have gv:=h2.1;have mq:0<ae.length:=by rw[gv];exact List.length_pos_iff.2 bE
  rw[<-gv] at vg;have:=Zh (h:=H) (b:=b) (len:=ae.length) (cs:=ae.flatten) (new:=[sJ]) (x:=.list .tight 4 [sJ]) qD qD q1 ah (by rw[q2];exact q4) bG (by simp;omega) (by simp;omega) h1 mq (by rw[q2,hf]) (by rw[q2];rfl);have az:=(aQ.1 h1).1;rw[show ae.length+[sJ].length=vs.length+1 by simp[gv]] at this;refine⟨_,this,by rw[cH,mc],rfl,rfl,(hx.fI ah _).trans (.push _ _),U6,λa cs ha hor=>aZ ((cP ?_).trans ha),(ae++[r]).flatten,?_,λH3 h5=>.inr ⟨bG,H.boxes.length,ae++[r],by simp[gv],h5,h2.snoc hv,by omega,jr⟩⟩
  ·rcases hor with z|z
   ·omega
   ·rintro rfl;exact h3 z
  ·have hg:((H.put b []).push (ae.flatten++[sJ].flatten)).boxes[H.boxes.length]?=aa (ae.flatten++[sJ].flatten):=ng (by rw[mc]);refine(fw (off:=vs.length * 4) (xs:=r) hv.cells rp hg rW ?_).trans ?_
   ·rw[du,hf,gv];exact aJ _
   ·have uo:eK (ae.flatten++[sJ].flatten) (vs.length * 4) r=(ae++[r]).flatten:=(by unfold eK;rw[rW,<-gv,<-hf,Is rfl,sK (by rw[du];exact aJ _),jv];simp);rw[uo]
def aiE:∃h',W4.call 112 [.list .nil 0 []] ⟨[],[],0,[]⟩=aa (.ret (.agg (bf 3 0 [] .nil 0 [])),h'):=by obtain⟨r,h',c,-,t,sz,ae,rfl,-,-,hn⟩:=OY ⟨[],[],0,[]⟩ ux .nil 0 [] [] .nil (λq=>absurd rfl q) bG (λa ha=>by cases ha);obtain⟨rfl,rfl,rfl⟩:=hn rfl;rw[uN] at c;exact⟨h',c⟩
def air:∀h,W5.call 112 [.list .nil 0 []] h=aa (.ret (.agg (bf 3 0 [] .nil 0 [])),h):=by obtain⟨h',c⟩:=aiE;exact iX (L:=L5) (dL:=[.list .nil 0 []]) aO (by rw[cA,cA,aI,ct,fS];intro n q;cases q) aO c (by rfl) aO
end Go.Proofs.YtnfciiiohoafaaaGreatDoor
end
section
namespace Go.AE
section
variable {P:Program} {G:Nat->Option (List AV)} {aK:bq->Option (List AV->ao->Option (AV × ao))} {Q:Xt->Env->ao->Prop} {e:Env} {h:ao} {L:List bq} {R:Rec}
def ajM{ops:Array Oper}{i n bi bn x1 x2:Nat}{o1 o2:Oper}{t1 t2:TypeId}{a1 a2 v1 v2:Operand}(hn:ops.size - 1=n)(Vh:ops[i]?=aa o1)(Vx:o1.op=.store t1 a1 v1)(ho2:ops[n]?=aa o2)(Vy:o2.op=.store t2 a2 v2)
 (h1:cJ P G R ops (ops.toList.take i) e h (λq ei _=>q=.normal/\ei.eval a1=.ptr (.box bi) x1))
 (h2:cJ P G R ops (ops.toList.take n) e h (λq en _=>q=.normal/\en.eval a2=.ptr (.box bn) x2)) (bE:bi≠bn):si P G R ops e h i=ai:=by
 subst hn;have hi:i<ops.size:=(Array.getElem?_eq_some_iff.1 Vh).1;obtain⟨q1,ei,NJ,e1,rfl,e2⟩:=h1;obtain⟨q2,en,iW,f1,rfl,f2⟩:=h2;rw[<-sf (Nat.le_of_lt hi)] at e1;rw[<-sf ah] at f1;unfold si;have p1:rf ops i ei=aa bi:=by unfold rf;rw[Vh];simp only[Vx,e2]
 have p2:rf ops (ops.size - 1) en=aa bn:=by unfold rf;rw[ho2];simp only[Vy,f2]
 simp only[e1,f1,p1,p2];cases hq:jw bi bn with|false=>rfl|true=>exact absurd (jF hq) bE
def anY{id:Nat}{ops:Array Oper}(i:Nat)(hL:tQ aK L)(hi:Nat.blt i ops.size=ai)(bD:Ef ops i=ai)(hd:De (gh ops i (ops.size - 1)) (Mu P (gh ops i (ops.size - 1)) L) []=ai)
 (rN:si P G (whole P G aK) ops e h i=ai) (hr:cJ P G (whole P G aK) ops ops.toList e h (xT Q)):bM (whole P G aK) (.region id ops ai) e h Q:=by
 have hi:i<ops.size:=by simpa [Nat.blt_eq] using hi
 have fN:=hr;obtain⟨o,en,hn,h1,h2⟩:=fN;cases o with
 |normal=>
  have eI:da P G (whole P G aK) (gh ops i (ops.size - 1)) (bL (gh ops i (ops.size - 1)).size) e h=aa (.normal,en,hn):=by rw[rK,Cm,sf (aJ _),<-Array.length_toList,gM];exact h1
  exact run_draw_stores (stores_of hi bD rN (MJ hd (λk hk=>SQ hL eI (List.mem_filter.1 hk).2) (λp hp=>nomatch hp))) hr
 |_=>exact h2.elim
def amQ{Post:Bool->ao->Prop}{H:ao}{l:Nat}{rec:gZ}{args:List AV}(hr:H.loops[l]?=aa rec)(hs:rec.params.size=args.length)(cd:rec.state=.ready)(hp:rec.pending=au)
 (ha:bM (whole P G aK) rec.assign (mT l rec args) H (λo e1 h1=>o=.normal/\h1=H/\bM (whole P G aK) rec.body e1 (H.busy l rec) (λo _ h2=>h2.loops[l]?=aa {rec with state:=.busy}/\
  ((o=.normal/\Post ai (h2.eH l rec))∨(o=.ret/\Post ay (h2.eH l {rec with state:=.done,pending:=aa .ret})))))):
 ∃b H',(whole P G aK).round l args H=aa (.ret (.v (.bool b)),H')/\Post b H':=by
 obtain⟨o,e1,h1,q1,rfl,rfl,o2,e2,h2,q2,q3,q4⟩:=ha;have zZ:{rec with state:=LoopState.ready,pending:=au}=rec:=by cases rec;cases cd;cases hp;rfl
 rcases q4 with⟨rfl,q4⟩|⟨rfl,q4⟩
 ·refine⟨ai,_,Ki hr hs ⟨_,e1,h1,q1,rfl,rec,hr,cd,.normal,e2,h2,q2,{rec with state:=.busy},q3,rfl,rfl⟩,?_⟩;show Post ai (h2.eH l {rec with state:=LoopState.ready,pending:=au});rw[zZ];exact q4
 ·exact⟨ay,_,Ki hr hs ⟨_,e1,h1,q1,rfl,rec,hr,cd,.ret,e2,h2,q2,{rec with state:=.busy},q3,rfl,rfl⟩,q4⟩
end
end Go.AE
end
section
namespace Go.Proofs.YtnfciiiohoafaaaGreatDoor
open Go.AE Go.NT
def acs(ep)(k1 k2 k3 k4 k5)(s1 s2 s3 s4 s5)(e1 e2 e3 e4 e5):
 mF aj 98 [(0,.agg (cB ep (.list k1 s1 e1) (.list k2 s2 e2) (.list k3 s3 e3))),(1,.list k4 s4 e4),(2,.list k5 s5 e5),(4,.agg (bf 3 0 [] .nil 0 []))]=aa (.agg (gL ep (.list k1 s1 e1) (.list k2 s2 e2) (.list k3 s3 e3) (.list k4 s4 e4) (.list k5 s5 e5) (.list .nil 0 []) (.list .nil 0 []) 0 0)):=aw
def BL(x:AV)(b:List UInt8):Prop:=∃k s,x=.list k s (aX b)/\(b≠[]->s=1)
def aqr(b):(aX b).length=b.length:=bJ _
def BL.dN{x}{b}(h:BL x b):dN aj 28 x=aa (.v (.int .i64 (b.length:Nat))):=by obtain⟨k,s,rfl,-⟩:=h;have u28:=jb;unfold Go.AE.dN;rw[u28];simp only[aqr]
def PL.ix{x}{l}(h:PL x l){i}(hi:i<l.length):dx aj 29 x (.v (.int .i64 (i:Nat)))=aa (.elem 4 (lH l) i 0):=by obtain⟨k,s,rfl,hs⟩:=h;have cK:s=4:=hs (by intro q;rw[q] at hi;simp at hi);subst cK;have:=ck (k:=k) (kk:=.i64) (es:=lH l) (a:=((i:Nat):Int)) LU AB ah (by rw[GS];omega);rw[this,dS]
def IL.ix{x}{l}(h:IL x l){i}(hi:i<l.length):dx aj 23 x (.v (.int .i64 (i:Nat)))=aa (.elem 1 (ints l) i 0):=by obtain⟨k,s,rfl,hs⟩:=h;have cK:s=1:=hs (by intro q;rw[q] at hi;simp at hi);subst cK;have:=ck (k:=k) (kk:=.i64) (es:=ints l) (a:=((i:Nat):Int)) eY iQ ah (by rw[eT];omega);rw[this,dS]
structure BI(h H:ao)(ep:Int)(X Y C T L:AV)(kb c:Nat)(cur:AV)(vs:List Vl)(t:Tok):Prop where
 ext:Ext h H
 ok:dj H=ai
 can:dQ h.tn H t
 key:H.boxes[kb]?=aa (cB ep X Y C)
 work:H.boxes[c]?=aa (gL ep X Y C T L (.list .nil 0 []) cur 0 0)
 la:yU H c (c+1) cur vs
 lo:h.boxes.length<=kb
 lt:kb<c
def BI.push{h H}{ep}{X Y C T L}{kb c}{cur}{vs}{t}(b:BI h H ep X Y C T L kb c cur vs t)(cs):BI h (H.push cs) ep X Y C T L kb c cur vs t:=by
 refine⟨b.ext.trans (.push _ _),b.ok,by rw[zn];exact b.can,aZ b.key,aZ b.work,?_,b.lo,b.lt⟩;rcases b.la with q|⟨q,x,ae,q1,q2,q3⟩
 ·exact .inl q
 ·exact .inr ⟨q,x,ae,q1,aZ q2,q3⟩
def BI.app{h H}{ep}{X Y C T L}{kb c}{cur}{vs}{t}(b:BI h H ep X Y C T L kb c cur vs t):BI h (H.app t) ep X Y C T L kb c cur vs (.free H.tn):=by
 have gr:=Grown.one b.can b.ok b.ext.tn;refine⟨gr.ext b.ext (aJ _),gr.ok,gr.can,by rw[eS];exact b.key,by rw[eS];exact b.work,?_,b.lo,b.lt⟩;rcases b.la with q|⟨q,x,ae,q1,q2,q3⟩
 ·exact .inl q
 ·exact .inr ⟨q,x,ae,q1,by rw[eS];exact q2,q3⟩
def BI.Mx{h H}{ep}{X Y C T L}{kb c}{cur}{vs}{t}(b:BI h H ep X Y C T L kb c cur vs t):c<H.boxes.length:=(aQ.1 b.work).1
def apQ{H}{c}{ep}{X Y C T L Wt cur x}{pt ch}(hb:H.boxes[c]?=aa (gL ep X Y C T L Wt cur pt ch))(hx:x.bU=aa [x]):b8 aj H 94 (.ptr (.box c) 10) x=aa (H.put c (gL ep X Y C T L Wt x pt ch)):=
 fw (off:=10) (cs:=gL ep X Y C T L Wt cur pt ch) (xs:=[x]) hx aw hb rfl (lN rfl)
def apP{H}{c}{ep}{X Y C T L Wt cur x}{pt ch}(hb:H.boxes[c]?=aa (gL ep X Y C T L Wt cur pt ch))(hx:x.bU=aa [x]):b8 aj H 23 (.ptr (.box c) 6) x=aa (H.put c (gL ep X Y C T L x cur pt ch)):=
 fw (off:=6) (cs:=gL ep X Y C T L Wt cur pt ch) (xs:=[x]) hx jN hb rfl (lN rfl)
def apS{H}{c}{ep}{X Y C T L Wt cur}{pt ch n}(hb:H.boxes[c]?=aa (gL ep X Y C T L Wt cur pt ch)):b8 aj H 3 (.ptr (.box c) 11) (.v (.int .i64 n))=aa (H.put c (gL ep X Y C T L Wt cur n ch)):=
 fw (off:=11) (cs:=gL ep X Y C T L Wt cur pt ch) (xs:=[.v (.int .i64 n)]) rfl iQ hb rfl (lN rfl)
def apR{H}{c}{ep}{X Y C T L Wt cur}{pt ch n}(hb:H.boxes[c]?=aa (gL ep X Y C T L Wt cur pt ch)):b8 aj H 3 (.ptr (.box c) 12) (.v (.int .i64 n))=aa (H.put c (gL ep X Y C T L Wt cur pt n)):=
 fw (off:=12) (cs:=gL ep X Y C T L Wt cur pt ch) (xs:=[.v (.int .i64 n)]) rfl iQ hb rfl (lN rfl)
def SA:gN aj 94 1 [(0,.agg [vA (Value.int .i64 0),vA (Value.int .i64 0),vA (Value.string (bs [])),vA (Value.slice au 0 0)])]=aa (.list .tight 4 [sJ]):=aw
def BI.next{h H}{ep}{X Y C T L}{kb c}{cur}{vs}{t}(b:BI h H ep X Y C T L kb c cur vs t)(hl:vs.length<1000000){v}{r}(hv:dh v r):
 ∃H2 cs,sI aj H #[94,94] cur (.list .tight 4 [sJ])=aa (.arr H.boxes.length 0 (vs.length+1) (vs.length+1),H2)/\
  dx aj 94 (.arr H.boxes.length 0 (vs.length+1) (vs.length+1)) (.v (.int .i64 (vs.length:Nat)))=aa (.ptr (.box H.boxes.length) (vs.length * 4))/\
  b8 aj H2 96 (.ptr (.box H.boxes.length) (vs.length * 4)) (.agg r)=aa (H2.put H.boxes.length cs)/\
  b8 aj (H2.put H.boxes.length cs) 94 (.ptr (.box c) 10) (.arr H.boxes.length 0 (vs.length+1) (vs.length+1))=aa ((H2.put H.boxes.length cs).put c (gL ep X Y C T L (.list .nil 0 []) (.arr H.boxes.length 0 (vs.length+1) (vs.length+1)) 0 0))/\
  BI h ((H2.put H.boxes.length cs).put c (gL ep X Y C T L (.list .nil 0 []) (.arr H.boxes.length 0 (vs.length+1) (vs.length+1)) 0 0)) ep X Y C T L kb c (.arr H.boxes.length 0 (vs.length+1) (vs.length+1)) (vs++[v]) t:=by
 have hc:=b.Mx;have p9:=b.lo;have az:=b.lt;obtain⟨H2,q1,q2,q3,q4,q5,q6,q7,cs,q8,q9⟩:=b.la.more b.ext ah hc ah hl hv;have hw:(H2.put H.boxes.length cs).boxes[c]?=aa (gL ep X Y C T L (.list .nil 0 []) cur 0 0):=by rw[cP ah];exact q7 c _ b.work (.inr rfl)
 have hk:((H2.put H.boxes.length cs).put c (gL ep X Y C T L (.list .nil 0 []) (.arr H.boxes.length 0 (vs.length+1) (vs.length+1)) 0 0)).boxes[kb]?=aa (cB ep X Y C):=by rw[cP ah,cP ah];exact q7 kb _ b.key (.inl ah)
 refine⟨H2,cs,q1,q6,q8,apQ hw rfl,(q5.fI (by have:=b.ext.len;omega) _).fI ah _,?_,?_,hk,ey (by rw[mc];omega),?_,p9,az⟩
 ·have:=b.ok;unfold dj at *
  show H2.dead.all (λn=>decide (n<H2.tn))=ai;rw[q3,q4];exact this
 ·have:=b.can;rw[A3,A3];rcases this with z|z|⟨m,z,z2,z3⟩
  ·exact .inl z
  ·exact .inr (.inl z)
  ·refine .inr (.inr ⟨m,z,z2,?_⟩);unfold alive at *
   rw[q3,q4];exact z3
 ·refine q9 _ ?_;rw[cP ah];exact ey (by rw[q2];omega)
def ajQ(p:Pr)(h:∀x∈[p.aC,p.no,p.d,p.e],0<=x/\x<=4611686018427387903):∃r,dh p.val r/\∀H,W5.call 112 [.list .tight 1 [[.iface 3 (.v (.int .i64 p.aC))],[.iface 3 (.v (.int .i64 p.no))],[.iface 3 (.v (.int .i64 p.d))],[.iface 3 (.v (.int .i64 p.e))]]] H=aa (.ret (.agg r),H):=by
 have:=aiq .tight 1 [.iface 3 (.v (.int .i64 p.aC)),.iface 3 (.v (.int .i64 p.no)),.iface 3 (.v (.int .i64 p.d)),.iface 3 (.v (.int .i64 p.e))] [.int p.aC,.int p.no,.int p.d,.int p.e]
  (.cons (.int _ (h _ bG)) (.cons (.int _ (h _ bG)) (.cons (.int _ (h _ bG)) (.cons (.int _ (h _ bG)) .nil)))) (λ_=>rfl) bG
 simp only[ev,uN] at this;exact this
end Go.Proofs.YtnfciiiohoafaaaGreatDoor
end
