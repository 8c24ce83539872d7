/-
  The engine, part 31: arguments of recursive types: a set of types, each made of others of the set.
-/
import Derived.Test.YtnfciiiohoafaaaGreatDoorPI
import Derived.Test.YtnfciiiohoafaaaGreatDoorPH
import Derived.Test.YtnfciiiohoafaaaGreatDoorPE
import Derived.Test.YtnfciiiohoafaaaGreatDoorPC
import Derived.LaidMore
import Derived.MakeChecks
import Derived.Stop.LaidErr
import Derived.Stop.Joined
import Derived.Lib.LaidTab
import Derived.Test.YtnfciiiohoafaaaGreatDoorRows
open And renaming intro→abp
open Nat renaming zero_le→abG,reduceEqDiff→abn,le_refl→abq,le_trans→abT,add_mul→ab4,lt_or_ge→abL,eq_of_beq_eq_true→abR,mul_le_mul_right→ab6
open List renaming getElem?_eq_getElem→abo,take_length→abU,take_succ_cons→abO,take_zero→abY,mem_of_getElem?→abz,nil_append→ab9,append_nil→ab2,getElem?_eq_some_iff→abm,mem_singleton→acg,cons_append→ab3,all_eq_true→abE,map_map→ad5,getElem?_map→abF,getD_eq_getElem?_getD→abw,mem_cons_self→abM,mem_cons_of_mem→abH,all_append→adE,drop_drop→adb,drop_zero→abZ,drop_left→agK
open Int renaming toNat_natCast→abB
open Bool renaming and_eq_true→abr
open Array renaming all_eq_true'→aep,mem_of_getElem?→ad7,getElem?_eq_some_iff→acD
open Option renaming map_eq_some_iff→abv,map_some→abJ,some.injEq→abA
set_option maxHeartbeats 64000000
set_option maxRecDepth 100000
set_option linter.unusedSimpArgs false
set_option linter.unusedVariables false
set_option linter.constructorNameAsVariable false
section
namespace Go.Proofs.YtnfciiiohoafaaaGreatDoor
open Go.AE Go.NT
theorem Vk:Tryz.f37.results.toList=[.tmp 4]:=kZq
theorem Ym:Tryz.f95.results.toList=[.tmp 6]:=kZq
theorem YQ:Tryz.f96.results.toList=[.tmp 4]:=kZq
theorem UR:Tryz.f39.results.toList=[.tmp 6]:=kZq
theorem Xu(h:ae)(x y:AV)(a b:List Int)(hx:IL x a)(hy:IL y b)(hal:a.length<=1000000)(hbl:b.length<=1000000):
 ∃r h',W6.call 37 [x,y] h=some (r,h')/\h'=h/\r=.ret (.v (.bool (decide (a=b)))):=by
 have lx:=hx.cH
 have ly:=hy.cH
 have kk:=ah.mk (abp hx hy)
 clear hx hy
 refine aL rfl Tryz.func37 rfl ?_
 by_cases hl:a.length=b.length
 rotate_left 1
 ·have hI:¬((a.length:Nat):Int)=((b.length:Nat):Int):=by omega
  have kr:ah (decide (a=b)=false):=⟨decide_eq_false fun q=>hl (by rw[q])⟩
  clear hl
  refine gx1 @Vk ?_
  exact⟨_,_,rfl,rfl,by rw[kr.out]⟩
 have hI:((a.length:Nat):Int)=((b.length:Nat):Int):=by omega
 have kl:=ah.mk hl
 refine gx1 @Vk ?_
 refine aD (fun m e H=>∃i:Nat,i<=a.length/\m=a.length - i/\ah (a.take i=b.take i)/\e.get 0=x/\e.get 1=y/\e.get 5=.v (.int .i64 (i:Nat))/\e.defers=[]/\H=h) ?_ a.length _ _ ?_
 rotate_left 1
 ·refine⟨0,abG _,rfl,⟨rfl⟩,?_,?_,?_,?_,rfl⟩<;>exact gR
 rintro m e H ⟨i,hi,rfl,kt,g0,g1,g5,hd,rfl⟩
 by_cases hlt:i<a.length
 ·have ix:=kk.out.1.ix hlt
  have aaM:=kk.out.2.ix (i:=i) (by omega)
  have ldx:=ldi (H:=H) (s:=1) hlt
  have ldy:=ldi (H:=H) (l:=b) (i:=i) (s:=1) (by omega)
  have ea:a[i]?=some (at0 a i):=by rw[abo hlt,bN hlt]
  have eb:b[i]?=some (at0 b i):=by rw[abo (by omega),bN (by omega)]
  have hltI:(i:Int)<(a.length:Int):=by omega
  by_cases hq:at0 a i=at0 b i
  ·have kt2:ah (a.take (i+1)=b.take (i+1)):=⟨by rw[a9 ea,a9 eb,kt.out,hq]⟩
   have dq:decide (at0 a i≠at0 b i)=false:=by simp[hq]
   clear ea eb kt
   generalize at0 a i=va at *
   generalize at0 b i=vb at *
   subst hq
   clear hl hI
   refine gx1 @Vk ?_
   refine bf rV kZq ?_
   refine gx1 @Vk ?_
   exact⟨a.length - (i+1),by omega,i+1,by omega,rfl,(by first|exact kt2|trivial),by simp⟩
  ·have kr:ah (decide (a=b)=false):=⟨decide_eq_false fun q=>hq (by rw[q])⟩
   clear ea eb kt hl hI
   generalize at0 a i=va at *
   generalize at0 b i=vb at *
   refine gx1 @Vk ?_
   refine bf rV kZq ?_
   refine gx1 @Vk ?_
   exact⟨_,_,rfl,rfl,by rw[kr.out]⟩
 ·have hie:i=a.length:=by omega
  subst hie
  have kr:ah (decide (a=b)=true):=⟨decide_eq_true (by
   have:=kt.out
   rw[abU,List.take_of_length_le (by omega)] at this
   exact this)⟩
  clear hl hI
  repeat' (first|simp(maxSteps:=999999)(disch:=first|exact dZ|fail)only[gW,reduceIte,abn,gBQ,Vk, *]|refine dX ?_ ?_<;>(intro _;try omega))
  exact⟨_,_,rfl,rfl,by rw[kr.out]⟩
theorem Yn(a b:Int)(t:List UInt8):aN Tryz.prog 94 3 [(0,.agg (cE 1 a [] .nil 0 [])),(1,.agg (cE 1 b [] .nil 0 [])),(2,.agg (cE 2 0 t .nil 0 []))]=some (.list .tight 4 [cE 1 a [] .nil 0 [],cE 1 b [] .nil 0 [],cE 2 0 t .nil 0 []]):=kZq
theorem Xv(h:ae)(p key:Int)(T:AV)(text:List UInt8)(hp:0<=p/\p<=4611686018427387903)(hk:0<=key/\key<=4611686018427387903)(ht:BL T text)(hl:text.length<=1000000):
 ∃r h',W6.call 95 [im p,im key,T] h=some (r,h')/\h'=h/\r=.ret (im ((tw p key text:Nat):Int)):=by
 have c1:=WR p
 have c2:=WR key
 have c3:=Xr text
 have hr:oP [.int p,.int key,.text text] [cE 1 p [] .nil 0 [],cE 1 key [] .nil 0 [],cE 2 0 text .nil 0 []]:=by
  refine⟨rfl,fun i v r hv hr=>?_⟩
  match i with
  |0=>injection hv with hv;injection hr with hr;subst hv;subst hr;exact .int p hp
  |1=>injection hv with hv;injection hr with hr;subst hv;subst hr;exact .int key hk
  |2=>injection hv with hv;injection hr with hr;subst hv;subst hr;exact .text text (by omega)
  |i+3=>simp at hv
 have c4:=WB hr rfl .tight (by simp)
 have hv:eo (.list [.int p,.int key,.text text]) (cE 3 0 [] (di .tight) 4 [cE 1 p [] .nil 0 [],cE 1 key [] .nil 0 [],cE 2 0 text .nil 0 []]):=.list _ _ _ _ rfl (fun _=>rfl) (by simp) hr.2
 have hlen:=BK p key text
 obtain⟨t,c5⟩:=V8 hv (by simp[eD,dN]) (by omega)
 have c6:=Xs vi (fB (.list [.int p,.int key,.text text])) t (by omega) (by decide)
 have hh:mK (dV vi (fB (.list [.int p,.int key,.text text])))=tw p key text:=rfl
 rw[hh] at c6
 rw[show vi=[115,105,103,110] from rfl] at c6
 have bk:=Yn p key text
 obtain⟨kt,st,rfl,hst⟩:=ht
 have cv:=fun H=>KD (k:=kt) hst H
 generalize tw p key text=n at *
 generalize cE 3 0 [] (di .tight) 4 [cE 1 p [] .nil 0 [],cE 1 key [] .nil 0 [],cE 2 0 text .nil 0 []]=R at *
 generalize cE 1 p [] .nil 0 []=r0 at *
 generalize cE 1 key [] .nil 0 []=r1 at *
 generalize cE 2 0 text .nil 0 []=r2 at *
 generalize fB (.list [.int p,.int key,.text text])=eb at *
 clear hr hv hlen hh hst
 unfold sv at c3
 unfold im at *
 refine aL rfl Tryz.func95 rfl ?_
 refine gx1 @Ym ?_
 refine bf rV kZq ?_
 refine gx1 @Ym ?_
 exact⟨_,_,rfl,rfl,rfl⟩
theorem WC(h:ae)(key e s:Int)(he:0<=e/\e<1073741789):
 ∃r h',W6.call 96 [im key,.agg [im e,im s]] h=some (r,h')/\h'=h.push [im e,im s]/\r=.ret (im (pO (iL 4 s) (iL key (0 - e)))):=by
 have c1:=V2 4 s
 have c2:=V2 key (0 - e)
 have c3:=Xk (iL 4 s) (iL key (0 - e))
 have bx:(AV.agg [im e,im s]).aC=some [im e,im s]:=rfl
 have l0:ai Tryz.prog Gt (h.push [im e,im s]) 3 (.ptr (.box h.boxes.length) 0)=some (im e):=aQ ag3 (ak _ _) rfl
 have l1:ai Tryz.prog Gt (h.push [im e,im s]) 3 (.ptr (.box h.boxes.length) 1)=some (im s):=aQ ag3 (ak _ _) rfl
 have wn:IntKind.i64.wrap (0 - e)=0 - e:=bT (by omega) (by omega)
 generalize pO (iL 4 s) (iL key (0 - e))=R at *
 generalize iL 4 s=u at *
 generalize iL key (0 - e)=v at *
 unfold im at *
 refine aL rfl Tryz.func96 rfl ?_
 refine gx4 @YQ @aw @sR @sS ?_
 exact⟨_,_,rfl,rfl,rfl⟩
theorem VI(h:ae)(key e s:Int)(T:AV)(text:List UInt8)(ht:BL T text)(hl:text.length<=1000000):
 ∃r h',W6.call 39 [im key,T,.agg [im e,im s]] h=some (r,h')/\Ext h h'/\r=.ret (.v (.bool (iO key text e s))):=by
 have c1:=Wv key
 have bx:(AV.agg [im e,im s]).aC=some [im e,im s]:=rfl
 have b0:=ak h [im e,im s]
 have l0:ai Tryz.prog Gt (h.push [im e,im s]) 3 (.ptr (.box h.boxes.length) 0)=some (im e):=aQ ag3 b0 rfl
 have l1:ai Tryz.prog Gt (h.push [im e,im s]) 3 (.ptr (.box h.boxes.length) 1)=some (im s):=aQ ag3 b0 rfl
 have l2:=Sh b0
 have kv:ah (iO key text e s=(aX key&&inQ e&&inQ s&&decide (e=((tw ((aY Gn s * aY key.toNat (0 - e)%P:Nat):Int) key text:Nat):Int)))):=⟨by rw[Int.zero_sub];rfl⟩
 generalize iO key text e s=res at *
 refine aL rfl Tryz.func39 rfl ?_
 cases hC:aX key with
 |false=>
  rw[hC] at c1
  have kr:ah (res=false):=⟨by rw[kv.out,hC];rfl⟩
  clear hC kv ht b0
  unfold im at *
  refine gx4 @UR @sR @sS @aw ?_
  exact⟨_,_,rfl,.push _ _,by rw[kr.out]⟩
 |true=>
 rw[hC] at c1
 by_cases h1:e<0
 ·have kr:ah (res=false):=⟨by rw[kv.out];unfold inQ;rw[decide_eq_false (show ¬0<=e by omega)];simp⟩
  clear hC kv ht b0
  unfold im at *
  refine gx4 @UR @sR @sS @aw ?_
  exact⟨_,_,rfl,.push _ _,by rw[kr.out]⟩
 by_cases h2:1073741789<=e
 ·have kr:ah (res=false):=⟨by rw[kv.out];unfold inQ Qi;rw[decide_eq_false (show ¬e<1073741789 by omega)];simp⟩
  clear hC kv ht b0
  unfold im at *
  refine gx4 @UR @sR @sS @aw ?_
  exact⟨_,_,rfl,.push _ _,by rw[kr.out]⟩
 by_cases h3:s<0
 ·have kr:ah (res=false):=⟨by rw[kv.out];unfold inQ;rw[decide_eq_false (show ¬0<=s by omega)];simp⟩
  clear hC kv ht b0
  unfold im at *
  refine gx4 @UR @sR @sS @aw ?_
  exact⟨_,_,rfl,.push _ _,by rw[kr.out]⟩
 by_cases h4:1073741789<=s
 ·have kr:ah (res=false):=⟨by rw[kv.out];unfold inQ Qi;rw[decide_eq_false (show ¬s<1073741789 by omega)];simp⟩
  clear hC kv ht b0
  unfold im at *
  refine gx4 @UR @sR @sS @aw ?_
  exact⟨_,_,rfl,.push _ _,by rw[kr.out]⟩
 have hr:=DT (hJ oU s) (hJ hC (0 - e))
 have hR:pO (iL 4 s) (iL key (0 - e))=((aY Gn s * aY key.toNat (0 - e)%P:Nat):Int):=by
  rw[rR (hJ oU s) (hJ hC (0 - e)),iS oU,iS hC,abB,abB];rfl
 have kr:ah (res=decide (e=((tw (pO (iL 4 s) (iL key (0 - e))) key text:Nat):Int))):=⟨by
  rw[kv.out,hC,hR,iP.2 (show okF e from⟨by omega,by have:Qi=1073741789:=rfl;omega⟩),iP.2 (show okF s from⟨by omega,by have:Qi=1073741789:=rfl;omega⟩)];rfl⟩
 have hk:=ir hC
 have hrr:=ir hr
 obtain⟨_,_,c2,rfl,rfl⟩:=WC (h.push [im e,im s]) key e s ⟨by omega,by omega⟩
 clear hR hr
 generalize pO (iL 4 s) (iL key (0 - e))=R at *
 obtain⟨_,_,c3,rfl,rfl⟩:=Xv ((h.push [im e,im s]).push [im e,im s]) R key T text ⟨by omega,by omega⟩ ⟨by omega,by omega⟩ ht hl
 generalize ((tw R key text:Nat):Int)=n at *
 have l0b:ai Tryz.prog Gt ((h.push [im e,im s]).push [im e,im s]) 3 (.ptr (.box h.boxes.length) 0)=some (im e):=aQ ag3 (aj b0) rfl
 have kx:ah (Ext h ((h.push [im e,im s]).push [im e,im s])):=⟨(Ext.push _ _).trans (.push _ _)⟩
 clear hC kv ht b0 hk hrr
 unfold im at *
 refine gx4 @UR @sR @sS @aw ?_
 refine bU [(1,4),(1,7)] rV kZq (fun p hp=>?_) ?_
 ·simp only[List.mem_cons,List.not_mem_nil,or_false] at hp
  rcases hp with rfl|rfl
  ·refine dH (x:=.ptr (.box h.boxes.length) 0) (v:=.v (.int .i64 e)) kZq rfl rfl rfl kZq (by simp[cB,gB]) ?_ ?_<;>(simp only[abO,abY];exact gz4 @UR @sR @sS @and_self)
  ·refine dH (x:=.ptr (.box h.boxes.length) 0) (v:=.v (.int .i64 e)) kZq rfl rfl rfl kZq (by simp[cB,gB]) ?_ ?_<;>(simp only[abO,abY];exact gz4 @UR @sR @sS @and_self)
 refine gx3 @UR @sR @sS ?_
 exact⟨_,_,rfl,kx.out,by rw[kr.out]⟩
def aap:List FuncId:=L6++[37,38,39,85,15,47,141,162,64,62,73,19,175,191,58,60,165,95]
noncomputable def US:FuncId->Option (List AV->ae->Option (AV × ae)):=fx W6 aap
noncomputable abbrev W7:=whole Tryz.prog Gt US
theorem Up:jo US aap:=nE
theorem YR:Tryz.f85.results.toList=[.cell 0 25]:=kZq
def aat:List (List Int):=[[1,1],[1,2],[1,3]]
def aas:List Int:=[1,2,3]
def X4:AV:=.list .tight 1 [[.list .tight 1 (ints [1,1])],[.list .tight 1 (ints [1,2])],[.list .tight 1 (ints [1,3])]]
def Y4:AV:=.list .tight 1 (ints [1,2,3])
theorem Xw:aN Tryz.prog 22 3 [(0,.list .tight 1 (ints [1,1])),(1,.list .tight 1 (ints [1,2])),(2,.list .tight 1 (ints [1,3]))]=some X4:=kZq
theorem Xx:aN Tryz.prog 23 3 [(0,.v (.int .i64 1)),(1,.v (.int .i64 2)),(2,.v (.int .i64 3))]=some Y4:=kZq
theorem UD(a b:Int):aN Tryz.prog 23 2 [(0,.v (.int .i64 a)),(1,.v (.int .i64 b))]=some (.list .tight 1 (ints [a,b])):=kZq
theorem Xy:fj Tryz.prog 25 [(0,X4),(1,Y4)]=some (.agg [X4,Y4]):=kZq
theorem Yo:(ej Tryz.prog 25).bind AV.aC=some [nl,nl]:=kZq
theorem WD(h:ae):W6.call 85 [] h=some (.ret (.agg [X4,Y4]),h.push [X4,Y4]):=by
 have z:=Yo
 have g1:=Xw
 have g2:=Xx
 have g3:=Xy
 have s1:aA Tryz.prog (h.push [nl,nl]) 25 (.ptr (.box h.boxes.length) 0) (.agg [X4,Y4])=some (h.push [X4,Y4]):=cQ kZq S7 rfl rfl
 have l1:ai Tryz.prog Gt (h.push [X4,Y4]) 25 (.ptr (.box h.boxes.length) 0)=some (.agg [X4,Y4]):=ma (ak _ _)
 generalize X4=X at *
 generalize Y4=Y at *
 refine ar rfl Tryz.func85 rfl ?_
 exact gz2 @YR @UD
theorem RL.ice{x:AV}{l:List (List Int)}(hx:RL x l)(hf:aV 0 0 0 x=true)(h:ae):RL (jK h x) l/\aV 0 0 0 (jK h x)=true:=by
 obtain⟨k,s,xs,rfl,hs,h1,h2⟩:=hx
 refine⟨⟨di k,s,xs,rfl,hs,h1,h2⟩,?_⟩
 show aV 0 0 0 (.list (di k) s (xs.map fun a=>[a]))=true
 rw[aV] at hf ⊢
 rw[bV,Bool.true_and]
 simp only[abr] at hf
 exact hf.2
theorem IL.ice{x:AV}{l:List Int}(hx:IL x l)(h:ae):IL (jK h x) l/\aV 0 0 0 (jK h x)=true:=by
 obtain⟨k,s,rfl,hs⟩:=hx
 refine⟨⟨di k,s,rfl,hs⟩,?_⟩
 show aV 0 0 0 (.list (di k) s (ints l))=true
 rw[aV,bV,fJ];rfl
theorem BL.ice{x:AV}{l:List UInt8}(hx:BL x l)(h:ae):BL (jK h x) l/\aV 0 0 0 (jK h x)=true:=by
 obtain⟨k,s,rfl,hs⟩:=hx
 refine⟨⟨di k,s,rfl,hs⟩,?_⟩
 show aV 0 0 0 (.list (di k) s (u8s l))=true
 rw[aV,bV,fT];rfl
theorem PL.ice{x:AV}{l:List Pr}(hx:PL x l)(h:ae):PL (jK h x) l/\aV 0 0 0 (jK h x)=true:=by
 obtain⟨k,s,rfl,hs⟩:=hx
 refine⟨⟨di k,s,rfl,hs⟩,?_⟩
 show aV 0 0 0 (.list (di k) s (eR l))=true
 rw[aV,bV,ye];rfl
theorem YS(a b:Int):∀h,W7.call 28 [im a,im b] h=some (.ret (im (cN a b)),h):=aF (L:=aap) rfl rfl rfl (K7 a b _) rfl rfl
section
variable (ep:Int) (X Y C T L:AV) (rows:List (List Int)) (owners aa:List Int) (text:List UInt8) (l:List Pr)
 (hx:RL X rows) (hy:IL Y owners) (hc:IL C aa) (ht:BL T text) (hp:PL L l) (hcl:aa.length<=1000000) (hll:l.length<=1000000)
include hx hy hc ht hp hcl hll
theorem Yq:(cd rows owners ep aa text l≠0/\∀h,W7.call 17 [.agg (cI ep X Y C),T,L] h=some (.ret (.tuple [.list .nil 0 [],im 0,im 0,im (cd rows owners ep aa text l)]),h))∨
 (cd rows owners ep aa text l=0/\∃Z,IL Z (mr (at0 aa 0) text l)/\∀h,W7.call 17 [.agg (cI ep X Y C),T,L] h=some (.ret (.tuple [Z,im ((dA (at0 aa 0) text l:Nat):Int),im ((aG (at0 aa 0) text l:Nat):Int),im 0]),h)):=by
 obtain⟨X',Y',C',e1,h1,h2,h3,h4⟩:=vV ep hx hy hc
 obtain⟨h5,h6⟩:=ht.hold
 obtain⟨h7,h8⟩:=hp.hold
 have ea:bM [.agg (cI ep X Y C),T,L]=[.agg (cI ep X' Y' C'),au T,au L]:=by
  rw[bM,bM,bM,bM,e1]
 have ef:bA 0 0 0 [.agg (cI ep X' Y' C'),au T,au L]=true:=by
  rw[bA,bA,bA,bA,h4,h6,h8];rfl
 rcases E3 ep X' Y' C' (au T) (au L) rows owners aa text l h1 h2 h3 h5 h7 hcl hll with⟨q,c⟩|⟨q,Z,hZ,c⟩
 ·exact .inl ⟨q,aF (L:=aap) rfl ea ef (c _) rfl rfl⟩
 ·obtain⟨g1,g2⟩:=hZ.ice ⟨[],[],0,[]⟩
  refine .inr ⟨q,jK ⟨[],[],0,[]⟩ Z,g1,aF (L:=aap) rfl ea ef (c _) rfl ?_⟩
  rw[aV,bA,g2];rfl
theorem Yr(ag z:Int):
 ∀h,W7.call 22 [.agg (cI ep X Y C),T,L,im ag,im z] h=some (.ret (.tuple [.v (.bool (ia rows owners ep aa text l ag z).1),im (ia rows owners ep aa text l ag z).2]),h):=by
 obtain⟨X',Y',C',e1,h1,h2,h3,h4⟩:=vV ep hx hy hc
 obtain⟨h5,h6⟩:=ht.hold
 obtain⟨h7,h8⟩:=hp.hold
 exact aF (L:=aap) rfl (by simp only[bM];rw[e1];rfl) (by simp only[bA];rw[h4,h6,h8];rfl) (NY ep X' Y' C' (au T) (au L) rows owners aa text l h1 h2 h3 h5 h7 hcl hll ag z _) rfl rfl
end
theorem Uq(key e s:Int)(T:AV)(text:List UInt8)(ht:BL T text)(hl:text.length<=1000000):
 ∀h,W7.call 26 [im key,T,.agg [im e,im s]] h=some (.ret (.v (.bool (iO key text e s))),h):=by
 obtain⟨h1,h2⟩:=ht.hold
 exact aF (L:=aap) (args':=[im key,au T,.agg [im e,im s]]) rfl (by simp only[bM];rfl) (by simp only[bA];rw[h2];rfl) (E4 key e s (au T) text h1 hl _) rfl rfl
theorem V9(key e s:Int)(T:AV)(text:List UInt8)(ht:BL T text)(hl:text.length<=1000000):
 ∀h,W7.call 39 [im key,T,.agg [im e,im s]] h=some (.ret (.v (.bool (iO key text e s))),h):=by
 obtain⟨h1,h2⟩:=ht.hold
 obtain⟨r,h',c,-,rfl⟩:=VI ⟨[],[],0,[]⟩ key e s (au T) text h1 hl
 exact aF (L:=aap) (args':=[im key,au T,.agg [im e,im s]]) rfl (by simp only[bM];rfl) (by simp only[bA];rw[h2];rfl) c rfl rfl
theorem Wa(x y:AV)(a b:List Int)(hx:IL x a)(hy:IL y b)(hal:a.length<=1000000)(hbl:b.length<=1000000):∀h,W7.call 37 [x,y] h=some (.ret (.v (.bool (decide (a=b)))),h):=by
 obtain⟨h1,h2⟩:=hx.hold
 obtain⟨h3,h4⟩:=hy.hold
 obtain⟨r,h',c,-,rfl⟩:=Xu ⟨[],[],0,[]⟩ (au x) (au y) a b h1 h3 hal hbl
 exact aF (L:=aap) (args':=[au x,au y]) rfl rfl (by simp[bA,h2,h4]) c rfl rfl
theorem Xz:∀h,W7.call 85 [] h=some (.ret (.agg [jK ⟨[],[],0,[]⟩ X4,jK ⟨[],[],0,[]⟩ Y4]),h):=aF (L:=aap) (args':=[]) rfl rfl rfl (WD _) kZq kZq
theorem Uf(X Y R W aar T:AV)(rows:List (List Int))(owners:List Int)(bp:Int)(random who N:List Int)(text:List UInt8)
 (hx:RL X rows) (hy:IL Y owners) (hr:IL R random) (hw:IL W who) (hn:IL aar N) (ht:BL T text) (hrl:random.length<=9223372036854775807) (hwl:who.length<=9223372036854775807) (hnl:N.length<=9223372036854775807):
 (UC rows owners bp random who N text=false/\∀h,W7.call 38 [.agg [X,Y],im bp,R,W,aar,T] h=some (.ret (.tuple [.agg (fa 0 nl nl nl nl nl nl),.v (.bool false),.v (.bool true)]),h))∨
 (UC rows owners bp random who N text=true/\∃X2 Y2 C2 T2 L2 Z2,RL X2 rows/\IL Y2 owners/\IL C2 (ax (bp::random))/\BL T2 text/\PL L2 (bq who N)/\IL Z2 (db rows owners (bp::random) who N (bq who N) text)/\
  ∀h,W7.call 38 [.agg [X,Y],im bp,R,W,aar,T] h=some (.ret (.tuple [.agg (fa 0 X2 Y2 C2 T2 L2 Z2),.v (.bool true),.v (.bool true)]),h)):=by
 obtain⟨h1,h2,h3,h4⟩:=fA hx hy
 obtain⟨r1,r2⟩:=hr.hold
 obtain⟨w1,w2⟩:=hw.hold
 obtain⟨n1,n2⟩:=hn.hold
 obtain⟨t1,t2⟩:=ht.hold
 have ef:bA 0 0 0 [.agg [au X,au Y],im bp,au R,au W,au aar,au T]=true:=by simp[bA,aV,h3,h4,r2,w2,n2,t2,im]
 have ea:bM [.agg [X,Y],im bp,R,W,aar,T]=[.agg [au X,au Y],im bp,au R,au W,au aar,au T]:=rfl
 obtain⟨r,h',c,-,⟨q,rfl⟩|⟨q,C,L,Z,rfl,g1,g2,g3⟩⟩:=VH ⟨[],[],0,[]⟩ ok0 (au X) (au Y) (au R) (au W) (au aar) (au T) rows owners bp random who N text h1 h2 r1 w1 n1 t1 hrl hwl hnl
 ·exact .inl ⟨q,aF (L:=aap) rfl ea ef c rfl rfl⟩
 ·obtain⟨a1,a2⟩:=h1.ice h3 h'
  obtain⟨b1,b2⟩:=h2.ice h'
  obtain⟨c1,c2⟩:=g1.ice h'
  obtain⟨d1,d2⟩:=t1.ice h'
  obtain⟨e1,e2⟩:=g2.ice h'
  obtain⟨f1,f2⟩:=g3.ice h'
  refine .inr ⟨q,_,_,_,_,_,_,a1,b1,c1,d1,e1,f1,aF (L:=aap) rfl ea ef c rfl ?_⟩
  simp[aV,bA,fa,a2,b2,c2,d2,e2,f2,im]
theorem WE:Tryz.f86.results.toList=[.tmp 8,.tmp 9]:=kZq
theorem WT:Tryz.f148.results.toList=[.tmp 2]:=kZq
theorem YT:Tryz.f87.results.toList=[.tmp 4]:=kZq
theorem XA:Tryz.f88.results.toList=[.tmp 6]:=kZq
theorem VJ:Tryz.f33.results.toList=[.cell 8 50,.tmp 9,.tmp 10]:=kZq
section
variable {pr:FuncId->Option (List AV->ae->Option (AV × ae))}
theorem XB(hpr:pr 167=none)(g:FuncId)(p:Int->Bool)(h:ae)(x:AV)(l:List Int)(hx:IS h x l)(hl:l.length<=1000000)(hp:∀n∈l,(whole Tryz.prog Gt pr).call g [im n] h=some (.ret (.v (.bool (p n))),h)):
 ∃r h',(whole Tryz.prog Gt pr).call 167 [x,.func (.func g) [] []] h=some (r,h')/\h'=h/\∃i:Int,r=.ret (im i)/\decide (0<=i)=l.any p:=by
 have lnx:=hx.len
 have kp:=ah.mk (abp hp hx)
 clear hp hx
 refine aL hpr Tryz.func167 rfl ?_
 refine gx1 @tI ?_
 refine aD (fun m e H=>∃i:Nat,i<=l.length/\m=l.length - i/\(l.take i).any p=false/\e.get 0=x/\e.get 1=.func (.func g) [] []/\e.get 7=.v (.int .i64 (l.length:Nat))/\e.get 8=.v (.int .i64 (i:Nat))/\e.defers=[]/\H=h) ?_ l.length _ _ ?_
 rotate_left 1
 ·refine⟨0,abG _,rfl,by simp,?_,?_,?_,?_,?_,rfl⟩<;>exact gR
 clear lnx
 rintro m e H ⟨i,hi,rfl,ha,g0,g1,g7,g8,hd,rfl⟩
 have ka:=ah.mk ha
 clear ha
 by_cases hlt:i<l.length
 ·obtain⟨a,ix,ldx⟩:=kp.out.2.at hlt
  have ld:=ldx H kp.out.2
  clear ldx
  have hv:l[i]?=some (at0 l i):=by rw[abo hlt,bN hlt]
  have hc:=kp.out.1 (at0 l i) (abz hv)
  have hltI:(i:Int)<(l.length:Int):=by omega
  have htake:(l.take (i+1)).any p=p (at0 l i):=by rw[a9 hv,List.any_append,ka.out];simp
  have kt:=ah.mk htake
  have kh:=ah.mk hv
  clear hv htake
  unfold im at hc
  cases hpv:p (at0 l i) with
  |true=>
   rw[hpv] at hc
   have hany:l.any p=true:=List.any_eq_true.2 ⟨_,abz kh.out,hpv⟩
   have kan:=ah.mk hany
   clear hany hpv
   refine gx3 @tI @ab9.{0} @ab2.{0} ?_
   exact⟨_,_,rfl,rfl,(i:Int),rfl,by rw[kan.out];simp⟩
  |false=>
   rw[hpv] at hc
   have kt2:(l.take (i+1)).any p=false:=kt.out.trans hpv
   clear hpv
   refine gx3 @tI @ab9.{0} @ab2.{0} ?_
   exact⟨l.length - (i+1),by omega,i+1,by omega,rfl,kt2,by simp⟩
 ·have:i=l.length:=by omega
  subst this
  have:=ka.out
  rw[abU] at this
  have kan:=ah.mk this
  clear this
  repeat' (first|simp(maxSteps:=999999)(disch:=first|exact dZ|fail)only[gW,reduceIte,abn,gBQ,tI, *]|refine dX ?_ ?_<;>(intro _;try omega))
  exact⟨_,_,rfl,rfl,-1,rfl,by rw[kan.out];rfl⟩
theorem VK(h167:pr 167=none)(h126:pr 126=none)(g:FuncId)(p:Int->Bool)(h:ae)(x:AV)(l:List Int)(hx:IS h x l)(hl:l.length<=1000000)(hp:∀n∈l,(whole Tryz.prog Gt pr).call g [im n] h=some (.ret (.v (.bool (p n))),h)):
 (whole Tryz.prog Gt pr).call 126 [x,.func (.func g) [] []] h=some (.ret (.v (.bool (l.any p))),h):=by
 obtain⟨r,h',c,rfl,i,rfl,hi⟩:=XB h167 g p h x l hx hl hp
 have hdec:decide (0<=i)=l.any p:=hi
 unfold im at c
 refine ar h126 Tryz.func126 rfl ?_
 clear hi hp hx
 exact gz1 @NI
end
theorem XC(n:Int)(h:ae):W7.call 148 [im n] h=some (.ret (.v (.bool (pR n))),h):=by
 unfold im pR
 by_cases h0:n<0
 ·refine ar rfl Tryz.func148 rfl ?_
  have:decide (n<0)=true:=by simp[h0]
  exact gz2 @WT @Bool.true_or
 ·refine ar rfl Tryz.func148 rfl ?_
  have:decide (n<0)=false:=by simp[h0]
  exact gz2 @WT @Bool.false_or
theorem Vu{H:ae}{b:Nat}{ep:Int}{X Y C:AV}(hb:H.boxes[b]?=some (cI ep X Y C)):ai Tryz.prog Gt H 27 (.ptr (.box b) 0)=some (.agg (cI ep X Y C)):=by
 rw[cP kZq Nc hb (Nat.le_of_ble_eq_true rfl)];rfl
def lW(rows:List (List Int))(owners:List Int)(ep:Int)(aa:List Int)(text:List UInt8)(l:List Pr)(z:List Int):Int × Int:=
 if cd rows owners ep aa text l≠0 then (0,cd rows owners ep aa text l) else if okZ l z=false then (0,1) else (((aG (at0 aa 0) text l:Nat):Int),0)
theorem Vv(h:ae)(ep:Int)(X Y C T L Z:AV)(rows:List (List Int))(owners aa:List Int)(text:List UInt8)(l:List Pr)(z:List Int)
 (hx:RL X rows) (hy:IL Y owners) (hc:IL C aa) (ht:BL T text) (hp:PL L l) (hcl:aa.length<=1000000) (hll:l.length<=1000000) (hz:IS h Z z) (hzl:z.length<=1000000):
 ∃r h',W7.call 86 [.agg (cI ep X Y C),T,L,Z] h=some (r,h')/\h'=h.push (cI ep X Y C)/\r=.ret (.tuple [im (lW rows owners ep aa text l z).1,im (lW rows owners ep aa text l z).2]):=by
 have bx:=hY (ep:=ep) hx hy hc
 have c1:=Yq ep X Y C T L rows owners aa text l hx hy hc ht hp hcl hll
 have hz2:IS (h.push (cI ep X Y C)) Z z:=hz.mono fun c cs q=>aj q
 have c2:=VK (pr:=US) rfl rfl 148 pR (h.push (cI ep X Y C)) Z z hz2 hzl (fun n _=>XC n _)
 have lnZ:=hz.len
 have lnL:=hp.cH
 have l1:=Vu (ak h (cI ep X Y C))
 have hv:(!z.any pR)=z.all inQ:=EO z
 refine aL rfl Tryz.func86 rfl ?_
 rcases c1 with⟨q,c1⟩|⟨q,B,hB,c1⟩
 ·have kr:ah (lW rows owners ep aa text l z=(0,cd rows owners ep aa text l)):=⟨by unfold lW;rw[if_pos q]⟩
  generalize cd rows owners ep aa text l=be at *
  clear hx hy hc ht hp hz hz2 hv c2
  unfold im at *
  refine gx2 @WE @aw ?_
  exact⟨_,_,rfl,rfl,by rw[kr.out]⟩
 have kr:ah (lW rows owners ep aa text l z=if okZ l z=false then (0,1) else (((aG (at0 aa 0) text l:Nat):Int),0)):=⟨by unfold lW;rw[if_neg (by rw[q];simp)]⟩
 have kd:ah (okZ l z=(decide (z.length=l.length)&&z.all inQ)):=⟨rfl⟩
 clear hx hy hc ht hp hz hz2 q hB
 generalize ((aG (at0 aa 0) text l:Nat):Int)=ch at *
 generalize ((dA (at0 aa 0) text l:Nat):Int)=pt at *
 unfold im at *
 by_cases hlen:z.length=l.length
 rotate_left 1
 ·have hI:¬((z.length:Nat):Int)=((l.length:Nat):Int):=by omega
  have aaE:decide (((z.length:Nat):Int)≠((l.length:Nat):Int))=true:=decide_eq_true hI
  have kr2:ah (lW rows owners ep aa text l z=(0,1)):=⟨by rw[kr.out,if_pos (by rw[kd.out,decide_eq_false hlen];rfl)]⟩
  clear kr kd hv c2 hlen
  refine gx2 @WE @aw ?_
  exact⟨_,_,rfl,rfl,by rw[kr2.out]⟩
 have hI:((z.length:Nat):Int)=((l.length:Nat):Int):=by omega
 have aaE:decide (((z.length:Nat):Int)=((l.length:Nat):Int))=true:=decide_eq_true hI
 cases ha:z.all inQ with
 |true=>
  have hf:z.any pR=false:=by rw[ha] at hv;simpa using hv
  rw[hf] at c2
  have kr2:ah (lW rows owners ep aa text l z=(ch,0)):=⟨by rw[kr.out,if_neg (by rw[kd.out,decide_eq_true hlen,ha];simp)]⟩
  clear kr kd hv hf ha hlen
  refine gx2 @WE @aw ?_
  exact⟨_,_,rfl,rfl,by rw[kr2.out]⟩
 |false=>
  have hf:z.any pR=true:=by rw[ha] at hv;simpa using hv
  rw[hf] at c2
  have kr2:ah (lW rows owners ep aa text l z=(0,1)):=⟨by rw[kr.out,if_pos (by rw[kd.out,ha];simp)]⟩
  clear kr kd hv hf ha hlen
  refine gx2 @WE @aw ?_
  exact⟨_,_,rfl,rfl,by rw[kr2.out]⟩
theorem Ys(a b:Int)(h:ae):W7.call 87 [im a,im b] h=some (.ret (im (cN a b)),h):=by
 have c:=YS a b
 unfold im at *
 refine ar rfl Tryz.func87 rfl ?_
 exact gz1 @YT
theorem XD(h:ae)(x:AV)(l:List Int)(hx:IS h x l)(hl:l.length<=1000000):
 ∃r h',W7.call 88 [x,im 0,.func (.func 87) [] []] h=some (r,h')/\h'=h/\r=.ret (im (l.foldl cN 0)):=by
 have lnx:=hx.len
 have kp:=ah.mk hx
 clear hx
 unfold im
 refine aL rfl Tryz.func88 rfl ?_
 refine gx1 @XA ?_
 refine aD (fun m e H=>∃i:Nat,i<=l.length/\m=l.length - i/\e.get 1=.v (.int .i64 (sU l i))/\e.get 2=.func (.func 87) [] []/\e.get 9=x/\e.get 10=.v (.int .i64 (l.length:Nat))/\e.get 11=.v (.int .i64 (i:Nat))/\e.defers=[]/\H=h) ?_ l.length _ _ ?_
 rotate_left 1
 ·refine⟨0,abG _,rfl,?_,?_,?_,?_,?_,?_,rfl⟩<;>exact gR
 clear lnx
 rintro m e H ⟨i,hi,rfl,g1,g2,g9,g10,g11,hd,rfl⟩
 by_cases hlt:i<l.length
 ·obtain⟨a,ix,ldx⟩:=kp.out.at hlt
  have ld:=ldx H kp.out
  clear ldx
  have hc:=Ys (sU l i) (at0 l i) H
  rw[<-HK hlt] at hc
  have hltI:(i:Int)<(l.length:Int):=by omega
  generalize sU l i=aax at *
  generalize ha2:sU l (i+1)=ak2 at *
  generalize at0 l i=v at *
  unfold im at hc
  refine gx3 @XA @ab9.{0} @ab2.{0} ?_
  exact⟨l.length - (i+1),by omega,i+1,by omega,rfl,by rw[ha2],by simp⟩
 ·have:i=l.length:=by omega
  subst this
  have hfin:sU l l.length=l.foldl cN 0:=by unfold sU;rw[abU]
  rw[hfin] at g1
  repeat' (first|simp(maxSteps:=999999)(disch:=first|exact dZ|fail)only[gW,reduceIte,abn,gBQ,XA, *]|refine dX ?_ ?_<;>(intro _;try omega))
  exact⟨_,_,rfl,rfl,rfl⟩
theorem p7(h:ae)(ep:Int)(X Y C T L Z:AV)(rows:List (List Int))(owners aa:List Int)(text:List UInt8)(l:List Pr)(z:List Int)
 (hx:RL X rows) (hy:IL Y owners) (hc:IL C aa) (ht:BL T text) (hp:PL L l) (hcl:aa.length<=1000000) (hll:l.length<=1000000) (htl:text.length<=1000000) (hz:IS h Z z) (hzl:z.length<=1000000):
 ∃r h',W7.call 33 [.agg (cI ep X Y C),T,L,Z] h=some (r,h')/\Ext h h'/\r=.ret (.tuple [.agg [im (QK rows owners ep aa text l z).1.1,im (QK rows owners ep aa text l z).1.2],.v (.bool (QK rows owners ep aa text l z).2.1),im (QK rows owners ep aa text l z).2.2]):=by
 have bx:=hY (ep:=ep) hx hy hc
 have zc:=Sf
 obtain⟨H0,hH0⟩:∃H0,(h.push (cI ep X Y C)).push [im 0,im 0]=H0:=⟨_,rfl⟩
 have hn1:(h.push (cI ep X Y C)).boxes.length=h.boxes.length+1:=az _ _
 have k0:H0.boxes[h.boxes.length]?=some (cI ep X Y C):=by rw[<-hH0];exact aj (ak _ _)
 have g0:H0.boxes[h.boxes.length+1]?=some [im 0,im 0]:=by
  have:=ak (h.push (cI ep X Y C)) [im 0,im 0]
  rw[hn1,hH0] at this;exact this
 have x0:Ext h H0:=by rw[<-hH0];exact(Ext.push _ _).trans (.push _ _)
 obtain⟨_,H1,c1,hH1,rfl⟩:=Vv H0 ep X Y C T L Z rows owners aa text l z hx hy hc ht hp hcl hll (hz.mono fun c cs q=>x0.box _ _ q) hzl
 have x1:Ext H0 H1:=by rw[hH1];exact .push _ _
 have k1:=x1.box _ _ k0
 have g1:=x1.box _ _ g0
 have l0:=Vu k0
 have aaV:=Sh g1
 have aa4:=Tw (u:=0) (v:=0) g1
 rw[ec g1] at aa4
 have kx:=ah.mk (x0.trans x1)
 have kv:ah (QK rows owners ep aa text l z=if cd rows owners ep aa text l≠0 then ((0,0),false,cd rows owners ep aa text l) else if okZ l z=false then ((0,0),false,1)
  else if iO (at0 aa 0) text ((aG (at0 aa 0) text l:Nat):Int) (z.foldl cN 0) then ((((aG (at0 aa 0) text l:Nat):Int),z.foldl cN 0),true,0) else ((0,0),false,0)):=⟨rfl⟩
 refine aL rfl Tryz.func33 rfl ?_
 by_cases hb:cd rows owners ep aa text l=0
 rotate_left 1
 ·have e1:lW rows owners ep aa text l z=(0,cd rows owners ep aa text l):=by unfold lW;rw[if_pos hb]
  rw[e1] at c1
  have kr:ah (QK rows owners ep aa text l z=((0,0),false,cd rows owners ep aa text l)):=⟨by rw[kv.out,if_pos hb]⟩
  generalize cd rows owners ep aa text l=be at *
  clear hx hy hc ht hp hz kv e1 hH1 x0 x1 k0 g0 k1 g1
  unfold im at *
  refine gx4 @VJ @aw @hn1 @hH0 ?_
  exact⟨_,_,rfl,kx.out,by rw[kr.out]⟩
 obtain⟨p1,p2,-⟩:=rU hb
 have hpos:0<aa.length:=by rw[p2];exact(fI p1).1
 cases hk:okZ l z with
 |false=>
  have e1:lW rows owners ep aa text l z=(0,1):=by unfold lW;rw[if_neg (by rw[hb];simp),if_pos hk]
  rw[e1] at c1
  have kr:ah (QK rows owners ep aa text l z=((0,0),false,1)):=⟨by rw[kv.out,if_neg (by rw[hb];simp),if_pos hk]⟩
  clear hx hy hc ht hp hz kv e1 hH1 x0 x1 k0 g0 k1 g1 hb hk p1 p2
  unfold im at *
  repeat' (first|simp(maxSteps:=999999)(disch:=first|exact dZ|fail)only[gW,reduceIte,abn,gBQ,VJ,aw,hn1,hH0, *]|refine dX ?_ ?_<;>(intro _;try omega))
  exact⟨_,_,rfl,kx.out,by rw[kr.out]⟩
 |true=>
  have e1:lW rows owners ep aa text l z=(((aG (at0 aa 0) text l:Nat):Int),0):=by unfold lW;rw[if_neg (by rw[hb];simp),if_neg (by rw[hk];simp)]
  rw[e1] at c1
  have kr:ah (QK rows owners ep aa text l z=if iO (at0 aa 0) text ((aG (at0 aa 0) text l:Nat):Int) (z.foldl cN 0) then ((((aG (at0 aa 0) text l:Nat):Int),z.foldl cN 0),true,0) else ((0,0),false,0)):=⟨by rw[kv.out,if_neg (by rw[hb];simp),if_neg (by rw[hk];simp)]⟩
  obtain⟨_,H1f,c2,e1f,rfl⟩:=XD H1 Z z (hz.mono fun c cs q=>(x0.trans x1).box _ _ q) hzl
  rw[e1f] at c2
  have c3:=Uq (at0 aa 0) ((aG (at0 aa 0) text l:Nat):Int) (z.foldl cN 0) T text ht htl
  have ixC:ay Tryz.prog 23 C (.v (.int .i64 0))=some (.elem 1 (ints aa) 0 0):=hc.ix (i:=0) hpos
  have ldC:∀K:ae,ai Tryz.prog Gt K 3 (.elem 1 (ints aa) 0 0)=some (.v (.int .i64 (at0 aa 0))):=fun K=>ldi hpos
  generalize z.foldl cN 0=sm at *
  generalize ((aG (at0 aa 0) text l:Nat):Int)=ch at *
  generalize hvv:iO (at0 aa 0) text ch sm=abe at *
  generalize at0 aa 0=key at *
  obtain⟨H2,hH2⟩:∃H2,H1.push [im ch,im sm]=H2:=⟨_,rfl⟩
  have x2:Ext H1 H2:=by rw[<-hH2];exact .push _ _
  have l1:ai Tryz.prog Gt H2 23 (.ptr (.box h.boxes.length) 3)=some C:=aQ mo (x2.box _ _ k1) rfl
  have s1:aA Tryz.prog (H1.push [im 0,im 0]) 50 (.ptr (.box H1.boxes.length) 0) (.agg [im ch,im sm])=some H2:=by rw[<-hH2];exact cQ rfl P1 rfl rfl
  have t2:H2.boxes[H1.boxes.length]?=some [im ch,im sm]:=by rw[<-hH2];exact ak _ _
  have l2:=Sh t2
  have g2:=x2.box _ _ g1
  have lG2:=Sh g2
  have sG2:=Tw (u:=0) (v:=0) g2
  rw[ec g2] at sG2
  have aa5:=Tw (u:=ch) (v:=sm) g2
  have aaK:=(abm.1 g2).1
  have aaW:ai Tryz.prog Gt (H2.put (h.boxes.length+1) [im ch,im sm]) 50 (.ptr (.box (h.boxes.length+1)) 0)=some (.agg [im ch,im sm]):=Sh (aS aaK)
  have bd:=TH ch sm
  have kx2:=ah.mk (abp ((x0.trans x1).trans x2) (((x0.trans x1).trans x2).bZ (by omega) (b:=h.boxes.length+1) [im ch,im sm]))
  clear hx hy hc ht hp hz kv e1 hH1 x0 x1 x2 k0 g0 k1 g1 g2 t2 hb hk p1 p2 hpos kx aaK aa4 aaV
  cases abe with
  |true=>
   have kr2:ah (QK rows owners ep aa text l z=((ch,sm),true,0)):=⟨kr.out⟩
   clear kr hvv sG2 lG2
   unfold im at *
   refine gx5 @VJ @aw @hn1 @hH0 @fF ?_
   refine bf Up kZq ?_
   refine gx2 @VJ @fF ?_
   exact⟨_,_,rfl,kx2.out.2,by rw[kr2.out]⟩
  |false=>
   have kr2:ah (QK rows owners ep aa text l z=((0,0),false,0)):=⟨kr.out⟩
   clear kr hvv aa5 aaW
   unfold im at *
   refine gx5 @VJ @aw @hn1 @hH0 @fF ?_
   refine bf Up kZq ?_
   refine gx2 @VJ @fF ?_
   exact⟨_,_,rfl,kx2.out.1,by rw[kr2.out]⟩
theorem YU:Tryz.f90.results.toList=[]:=kZq
theorem YV:Tryz.f91.results.toList=[.tmp 4]:=kZq
theorem Vw:Tryz.f149.results.toList=[]:=kZq
theorem Wb:Tryz.f35.results.toList=[.cell 8 23,.cell 9 32]:=kZq
theorem IS.Uu{H:ae}{x:AV}{l:List Int}(h:IS H x l):x.aC=some [x]:=by
 rcases h with⟨k,s,rfl,-⟩|⟨b,rfl,-⟩<;>rfl
theorem Vx{b:Nat}:aJ Tryz.prog 130 (.ptr (.box b) 0) 0=some (.ptr (.box b) 0):=kZq
theorem Yt(H:ae)(n0 b:Nat)(t:Tok)(s:Nat)(bad:List Int)(k:Int)(hb:H.boxes[b]?=some [.list t s (ints bad)])(hs:s=1∨(bad=[]/\t=.nil))(hl:bad.length<1000000)(hc:bG n0 H t):
 W7.call 90 [.ptr (.box b) 0,im k] H=some (.ret (.tuple []),(H.app t).put b [.list (.free H.tn) 1 (ints (bad++[k]))]):=by
 have ap:=wI (x:=k) (es:=bad) (by omega) hs hc
 have lA:=vD hb
 have sA:aA Tryz.prog (H.app t) 23 (.ptr (.box b) 0) (.list (.free H.tn) 1 (ints (bad++[k])))=some ((H.app t).put b [.list (.free H.tn) 1 (ints (bad++[k]))]):=
  aW (off:=0) (cs:=[.list t s (ints bad)]) (xs:=[.list (.free H.tn) 1 (ints (bad++[k]))]) rfl jC (by rw[aT];exact hb) rfl (abq 1)
 have bl:=pQ k
 clear hb hs hc
 unfold im at *
 refine ar rfl Tryz.func90 rfl ?_
 exact gz3 @YU @Vx @Mb
theorem WG(h:ae)(L Z:AV)(hL:L.aC=some [L])(hZ:Z.aC=some [Z]):W7.call 91 [L,Z] h=some (.ret (.func (.func 149) [] [.ptr (.box h.boxes.length) 0,.ptr (.box (h.boxes.length+1)) 0]),(h.push [L]).push [Z]):=by
 refine ar rfl Tryz.func91 rfl ?_
 exact gz3 @YV @aw @az
theorem Vm(lp pb zb:Nat)(L Z:AV)(l:List Pr)(z:List Int)(Inv:Nat->ae->Prop)(hp:PL L l)(hll:l.length<=1000000)(hzl:z.length=l.length)
 (h1:∀k H,Inv k H->H.boxes[pb]?=some [L]/\H.boxes[zb]?=some [Z]/\IS H Z z)
 (hP:∀k H cs,Inv k H->Inv k (H.push cs))
 (hR:∀k H,k<l.length->Inv k H->∃H',W7.round lp [im (rA l k),im (at0 z k)] H=some (.ret (.v (.bool true)),H')/\Inv (k+1) H')
 (H0:ae) (h0:Inv 0 H0):∃H',W7.call 149 [.yield lp,.ptr (.box pb) 0,.ptr (.box zb) 0] H0=some (.ret (.tuple []),H')/\Inv l.length H':=by
 have kk:=ah.mk (abp h1 (abp hP (abp hR (abp h0 hp))))
 obtain⟨b1,-,-⟩:=h1 0 H0 h0
 have l1:ai Tryz.prog Gt H0 29 (.ptr (.box pb) 0)=some L:=aQ KP b1 rfl
 have ln:=hp.cH
 have zp:=zK
 clear h1 hP hR h0 hp b1
 refine dL rfl Tryz.func149 rfl ?_
 refine gx1 @Vw ?_
 refine aD (fun m e H=>∃k:Nat,k<=l.length/\m=l.length - k/\ah (Inv k H)/\e.get 0=.yield lp/\e.get 2=.ptr (.box zb) 0/\e.get 6=L/\e.get 7=.v (.int .i64 (l.length:Nat))/\e.get 8=.v (.int .i64 (k:Nat))/\e.defers=[]) ?_ l.length _ _ ?_
 rotate_left 1
 ·refine⟨0,abG _,rfl,⟨kk.out.2.2.2.1⟩,?_,?_,?_,?_,?_,?_⟩<;>exact gR
 clear l1 ln
 rintro m e H ⟨k,hk,rfl,kI,g0,g2,g6,g7,g8,hd⟩
 by_cases hlt:k<l.length
 rotate_left 1
 ·have:k=l.length:=by omega
  subst this
  repeat' (first|simp(maxSteps:=999999)(disch:=first|exact dZ|fail)only[gW,reduceIte,abn,gBQ,Vw, *]|refine dX ?_ ?_<;>(intro _;try omega))
  exact⟨_,rfl,kI.out⟩
 obtain⟨p,hpk⟩:∃p,l[k]?=some p:=⟨_,abo hlt⟩
 have ix:=kk.out.2.2.2.2.ix hlt
 have ldp:=KN (H:=H) (s:=4) hpk
 have sp:=oV (H:=H) p
 have kI2:=ah.mk (kk.out.2.1 k H (aq p) kI.out)
 obtain⟨-,b2,b3⟩:=kk.out.1 k _ kI2.out
 have lz:ai Tryz.prog Gt (H.push (aq p)) 23 (.ptr (.box zb) 0)=some Z:=aQ mo b2 rfl
 have lk:ai Tryz.prog Gt (H.push (aq p)) 3 (.ptr (.box H.boxes.length) 0)=some (.v (.int .i64 p.ag)):=aQ ag3 (ak _ _) rfl
 obtain⟨a,aaN,ldz⟩:=b3.at (i:=k) (by omega)
 have lz2:=ldz _ b3
 obtain⟨H',r1,r2⟩:=kk.out.2.2.1 k _ hlt kI2.out
 rw[UI hpk] at r1
 have kI3:=ah.mk r2
 have hltI:(k:Int)<(l.length:Int):=by omega
 clear ldz b2 b3 r2 kI kI2 hpk
 generalize at0 z k=abl at *
 unfold im at *
 generalize p.ag=aa0 at *
 refine gx3 @Vw @aw @jj ?_
 refine bf Up kZq ?_
 refine gx3 @Vw @jj @gY ?_
 exact⟨l.length - (k+1),by omega,k+1,by omega,rfl,kI3,by simp⟩
theorem Yu:cZ Tryz.prog 131=some false:=kZq
theorem Yv:bF Tryz.prog 131=some 1:=kZq
theorem Yw:(ej Tryz.prog 23).bind AV.aC=some [nl]:=kZq
theorem Yx:(ej Tryz.prog 130).bind AV.aC=some [nl]:=kZq
theorem Yy:(ej Tryz.prog 131).bind AV.aC=some [.v .nilFunc]:=kZq
theorem Wc(rows:List (List Int))(owners:List Int)(ep:Int)(aa:List Int)(text:List UInt8)(l:List Pr)(z:List Int)(k:Nat):(UF rows owners ep aa text l z k).length<=k:=by
 induction k with
 |zero=>simp[UF]
 |succ k ih=>
  rw[UH,List.length_append]
  have:(Uv rows owners ep aa text l z k).length<=1:=by unfold Uv;split<;>simp
  omega
def U9(h h1:ae)(bl:Nat)(LP:List bE)(bad:Nat->List Int)(k:Nat)(H:ae):Prop:=
 ∃t s,H.loops=LP/\H.boxes[bl]?=some [.list t s (ints (bad k))]/\(s=1∨(bad k=[]/\t=.nil))/\bG h.tn H t/\aZ H=true/\Ext h H/\h1.boxes.length<=H.boxes.length/\∀(a:Nat) (cs:List AV),h1.boxes[a]?=some cs->a≠bl->H.boxes[a]?=some cs
theorem U9.push{h h1:ae}{bl:Nat}{LP:List bE}{bad:Nat->List Int}{k:Nat}{H:ae}(b:U9 h h1 bl LP bad k H)(cs:List AV):U9 h h1 bl LP bad k (H.push cs):=by
 obtain⟨t,s,i1,i2,i3,i4,i5,i6,i7,i8⟩:=b
 exact⟨t,s,i1,aj i2,i3,by rw[ij];exact i4,i5,i6.trans (.push _ _),by rw[az];omega,fun a cs q hne=>aj (i8 a cs q hne)⟩
theorem Uh(h:ae)(hok:aZ h=true)(ep:Int)(X Y C T L Z:AV)(rows:List (List Int))(owners aa:List Int)(text:List UInt8)(l:List Pr)(z:List Int)
 (hx:RL X rows) (hy:IL Y owners) (hc:IL C aa) (ht:BL T text) (hp:PL L l) (hcl:aa.length<=1000000) (hll:l.length<=1000000) (hz:IS h Z z) (hzl:z.length<=1000000):
 ∃r h',W7.call 35 [.agg (cI ep X Y C),T,L,Z] h=some (r,h')/\Ext h h'/\∃B,r=.ret (.tuple [B,im (sw rows owners ep aa text l z).2])/\IL B (sw rows owners ep aa text l z).1:=by
 have bx:=hY (ep:=ep) hx hy hc
 have aaA:=ht.Uu
 have aaz:=hp.Uu
 have z23:=Yw
 have z32:=S1
 have z130:=Yx
 have z131:=Yy
 obtain⟨H0,hH0⟩:∃H0,((((h.push (cI ep X Y C)).push [T]).push [L]).push [nl]).push [im 0]=H0:=⟨_,rfl⟩
 have n1:(h.push (cI ep X Y C)).boxes.length=h.boxes.length+1:=az _ _
 have n2:((h.push (cI ep X Y C)).push [T]).boxes.length=h.boxes.length+2:=by rw[az,n1]
 have n3:(((h.push (cI ep X Y C)).push [T]).push [L]).boxes.length=h.boxes.length+3:=by rw[az,n2]
 have n4:((((h.push (cI ep X Y C)).push [T]).push [L]).push [nl]).boxes.length=h.boxes.length+4:=by rw[az,n3]
 have n5:H0.boxes.length=h.boxes.length+5:=by rw[<-hH0,az,n4]
 have k0:H0.boxes[h.boxes.length]?=some (cI ep X Y C):=by rw[<-hH0];exact aj (aj (aj (aj (ak _ _))))
 have k1:H0.boxes[h.boxes.length+1]?=some [T]:=by rw[<-hH0,<-n1];exact aj (aj (aj (ak _ _)))
 have k2:H0.boxes[h.boxes.length+2]?=some [L]:=by rw[<-hH0,<-n2];exact aj (aj (ak _ _))
 have k3:H0.boxes[h.boxes.length+3]?=some [nl]:=by rw[<-hH0,<-n3];exact aj (ak _ _)
 have k4:H0.boxes[h.boxes.length+4]?=some [im 0]:=by rw[<-hH0,<-n4];exact ak _ _
 have x0:Ext h H0:=by rw[<-hH0];exact((((Ext.push _ _).trans (.push _ _)).trans (.push _ _)).trans (.push _ _)).trans (.push _ _)
 obtain⟨_,H1,c1,hH1,rfl⟩:=Vv H0 ep X Y C T L Z rows owners aa text l z hx hy hc ht hp hcl hll (hz.mono fun c cs q=>x0.box _ _ q) hzl
 have x1:Ext H0 H1:=by rw[hH1];exact .push _ _
 have m1:H1.boxes.length=h.boxes.length+6:=by rw[hH1,az,n5]
 obtain⟨ce,hce⟩:∃e,(lW rows owners ep aa text l z).2=e:=⟨_,rfl⟩
 rw[hce] at c1
 have g4:=x1.box _ _ k4
 have gl4:=(abm.1 g4).1
 obtain⟨H2,hH2⟩:∃H2,H1.put (h.boxes.length+4) [im ce]=H2:=⟨_,rfl⟩
 have s1:aA Tryz.prog H1 32 (.ptr (.box (h.boxes.length+4)) 0) (im ce)=some H2:=by
  rw[<-hH2];exact aW (off:=0) (cs:=[im 0]) (xs:=[im ce]) rfl Rs g4 rfl (abq 1)
 have x2:Ext h H2:=by rw[<-hH2];exact(x0.trans x1).bZ (by omega) _
 have m2:H2.boxes.length=h.boxes.length+6:=by rw[<-hH2,dU,m1]
 have j0:H2.boxes[h.boxes.length]?=some (cI ep X Y C):=by rw[<-hH2,av (by omega)];exact x1.box _ _ k0
 have j1:H2.boxes[h.boxes.length+1]?=some [T]:=by rw[<-hH2,av (by omega)];exact x1.box _ _ k1
 have j2:H2.boxes[h.boxes.length+2]?=some [L]:=by rw[<-hH2,av (by omega)];exact x1.box _ _ k2
 have aaO:H2.boxes[h.boxes.length+3]?=some [nl]:=by rw[<-hH2,av (by omega)];exact x1.box _ _ k3
 have j4:H2.boxes[h.boxes.length+4]?=some [im ce]:=by rw[<-hH2];exact aS gl4
 have l0:=Vu k0
 have l1:ai Tryz.prog Gt H0 28 (.ptr (.box (h.boxes.length+1)) 0)=some T:=aQ Tj k1 rfl
 have l2:ai Tryz.prog Gt H0 29 (.ptr (.box (h.boxes.length+2)) 0)=some L:=aQ KP k2 rfl
 have l4:ai Tryz.prog Gt H2 32 (.ptr (.box (h.boxes.length+4)) 0)=some (im ce):=aQ DL j4 rfl
 have kv:ah (sw rows owners ep aa text l z=if cd rows owners ep aa text l≠0 then ([],cd rows owners ep aa text l) else if okZ l z=false then ([],1) else (UF rows owners ep aa text l z l.length,0)):=⟨rfl⟩
 refine aL rfl Tryz.func35 rfl ?_
 by_cases he:ce=0
 rotate_left 1
 ·have kr:ah (sw rows owners ep aa text l z=([],ce)):=⟨by
   rw[kv.out]
   by_cases q:cd rows owners ep aa text l=0
   ·rw[if_neg (by simp[q])]
    cases hk:okZ l z with
    |false=>rw[if_pos rfl,<-hce];unfold lW;rw[if_neg (by simp[q]),if_pos hk]
    |true=>exact absurd (by rw[<-hce];unfold lW;rw[if_neg (by simp[q]),if_neg (by simp[hk])]) he
   ·rw[if_pos q,<-hce];unfold lW;rw[if_pos q]⟩
  have sA:aA Tryz.prog H2 23 (.ptr (.box (h.boxes.length+3)) 0) nl=some H2:=by
   rw[aW (off:=0) (cs:=[nl]) (xs:=[nl]) rfl jC aaO rfl (abq 1)]
   exact congrArg some (ec aaO)
  have sB:aA Tryz.prog H2 32 (.ptr (.box (h.boxes.length+4)) 0) (im ce)=some H2:=by
   rw[aW (off:=0) (cs:=[im ce]) (xs:=[im ce]) rfl Rs j4 rfl (abq 1)]
   exact congrArg some (ec j4)
  have lA:ai Tryz.prog Gt H2 23 (.ptr (.box (h.boxes.length+3)) 0)=some nl:=aQ mo aaO rfl
  have kx:=ah.mk x2
  have aaF:decide (ce=0)=false:=decide_eq_false he
  have svs:cB (im ce) (im ce)=true:=by simp[im,cB,gB]
  clear hx hy hc ht hp hz kv hce hH1 x0 x1 x2 k0 k1 k2 k3 k4 g4 gl4 hH2 j0 j1 j2 aaO j4 n5 m1 m2
  unfold im at *
  repeat' (first|simp(maxSteps:=999999)(disch:=first|exact dZ|fail)only[gW,reduceIte,abn,gBQ,Wb,aw,n1,n2,n3,n4,hH0, *]|refine dX ?_ ?_<;>(intro _;try omega))
  refine bU [(0,1)] Up kZq (fun p hp=>?_) ?_
  ·simp only[acg] at hp
   subst hp
   refine dH (x:=.ptr (.box (h.boxes.length+4)) 0) (v:=.v (.int .i64 ce)) kZq rfl rfl rfl kZq (svs) ?_ ?_<;>(simp only[abO,abY];exact gz2 @Wb @and_self)
  refine gx1 @Wb ?_
  exact⟨_,_,rfl,kx.out,_,by rw[kr.out],by rw[kr.out];exact⟨_,_,rfl,fun q=>absurd rfl q⟩⟩
 subst he
 have hb:cd rows owners ep aa text l=0:=by
  by_cases q:cd rows owners ep aa text l=0
  ·exact q
  ·unfold lW at hce;rw[if_pos q] at hce;exact hce
 have hk:okZ l z=true:=by
  cases hk:okZ l z with
  |true=>rfl
  |false=>unfold lW at hce;rw[if_neg (by simp[hb]),if_pos hk] at hce;cases hce
 obtain⟨q1,q2⟩:=QO.1 hk
 have kr:ah (sw rows owners ep aa text l z=(UF rows owners ep aa text l z l.length,0)):=⟨by rw[kv.out,if_neg (by simp[hb]),if_neg (by simp[hk])]⟩
 have kf:ah (∀k,k<l.length->∀h,W7.call 22 [.agg (cI ep X Y C),T,L,im (rA l k),im (at0 z k)] h=some (.ret (.tuple [.v (.bool (ia rows owners ep aa text l (rA l k) (at0 z k)).1),im 0]),h)):=⟨fun k hk2=>by
  have:=Yr ep X Y C T L rows owners aa text l hx hy hc ht hp hcl hll (rA l k) (at0 z k)
  rw[VD hb hk hk2] at this
  exact this⟩
 obtain⟨H3,hH3⟩:∃H3,H2.push [nl]=H3:=⟨_,rfl⟩
 obtain⟨H4,hH4⟩:∃H4,H3.push [.func (.func 90) [.ptr (.box (h.boxes.length+6)) 0] []]=H4:=⟨_,rfl⟩
 have m3:H3.boxes.length=h.boxes.length+7:=by rw[<-hH3,az,m2]
 have m4:H4.boxes.length=h.boxes.length+8:=by rw[<-hH4,az,m3]
 have s4:aA Tryz.prog (H3.push [.v .nilFunc]) 131 (.ptr (.box (h.boxes.length+7)) 0) (.func (.func 90) [.ptr (.box (h.boxes.length+6)) 0] [])=some H4:=by
  rw[<-hH4,<-m3];exact cQ rfl Yv rfl rfl
 obtain⟨H6,hH6⟩:∃H6,(H4.push [L]).push [Z]=H6:=⟨_,rfl⟩
 have c2:=WG H4 L Z aaz hz.Uu
 rw[hH6,m4] at c2
 have o2:∀{b:Nat} {cs:List AV},H2.boxes[b]?=some cs->H6.boxes[b]?=some cs:=fun q=>by rw[<-hH6,<-hH4,<-hH3];exact aj (aj (aj (aj q)))
 have j6:H6.boxes[h.boxes.length+6]?=some [nl]:=by rw[<-hH6,<-hH4,<-hH3,<-m2];exact aj (aj (aj (ak _ _)))
 have j7:H6.boxes[h.boxes.length+7]?=some [.func (.func 90) [.ptr (.box (h.boxes.length+6)) 0] []]:=by rw[<-hH6,<-hH4,<-m3];exact aj (aj (ak _ _))
 have aaP:H6.boxes[h.boxes.length+8]?=some [L]:=by rw[<-hH6,<-m4];exact aj (ak _ _)
 have aaQ:H6.boxes[h.boxes.length+9]?=some [Z]:=by
  rw[<-hH6]
  have:=ak (H4.push [L]) [Z]
  rwa [az,m4] at this
 have x6:Ext h H6:=by rw[<-hH6,<-hH4,<-hH3];exact(((x2.trans (.push _ _)).trans (.push _ _)).trans (.push _ _)).trans (.push _ _)
 have hok6:=x6.ok hok
 have l3:ai Tryz.prog Gt H4 29 (.ptr (.box (h.boxes.length+2)) 0)=some L:=aQ KP (by rw[<-hH4,<-hH3];exact aj (aj j2)) rfl
 have abi:=o2 j0
 have y1:=o2 j1
 have y2:=o2 j2
 have y3:=o2 aaO
 have abj:=o2 j4
 have hz6:IS H6 Z z:=hz.mono fun c cs q=>x6.box _ _ q
 clear x0 x1 x2 k0 k1 k2 k3 k4 g4 gl4 j0 j1 j2 aaO j4 o2 hH1 hH2 hH6 hH4 hce kv hb hk
 unfold im at *
 repeat' (first|simp(maxSteps:=999999)(disch:=first|exact dZ|fail)only[gW,reduceIte,abn,gBQ,Wb,aw,n1,n2,n3,n4,hH0,m2,m3,hH3, *]|refine dX ?_ ?_<;>(intro _;try omega))
 refine Run.gen fun e4 he4 hd4 hp4 hr4=>?_
 have f4:e4.get 4=.ptr (.box h.boxes.length) 0:=by rw[he4];exact gS
 have f5:e4.get 5=.ptr (.box (h.boxes.length+1)) 0:=by rw[he4];simp only[gW,reduceIte,abn,gBQ,n1]
 have f6:e4.get 6=.ptr (.box (h.boxes.length+2)) 0:=by rw[he4];simp only[gW,reduceIte,abn,gBQ,n2]
 have f8:e4.get 8=.ptr (.box (h.boxes.length+3)) 0:=by rw[he4];simp only[gW,reduceIte,abn,gBQ,n3]
 have f9:e4.get 9=.ptr (.box (h.boxes.length+4)) 0:=by rw[he4];simp only[gW,reduceIte,abn,gBQ,n4]
 have f10:e4.get 10=.ptr (.box (h.boxes.length+6)) 0:=by rw[he4];simp only[gW,reduceIte,abn,gBQ,m2]
 have f11:e4.get 11=.ptr (.box (h.boxes.length+7)) 0:=by rw[he4];simp only[gW,reduceIte,abn,gBQ,m3]
 have f30:e4.get 30=.func (.func 149) [] [.ptr (.box (h.boxes.length+8)) 0,.ptr (.box (h.boxes.length+8+1)) 0]:=by rw[he4];exact gS
 have fd:e4.defers=[]:=by rw[hd4];exact gS
 clear he4 hd4 hp4 hr4 c1 c2 s1 s4 l0 l1 l2 l3 l4 bx aaA aaz z23 z32 z130 z131 hH0 n1 n2 n3 n4 n5 m1 hH3 m2 m3 m4
 refine kD (by rw[lv];exact f30) fun rec w1 w2 w3 w4 w5 w6=>?_
 obtain⟨bad,hbad⟩:∃bad:Nat->List Int,bad=UF rows owners ep aa text l z:=⟨_,rfl⟩
 have kb0:ah (bad 0=[]):=⟨by rw[hbad];rfl⟩
 have kbs:ah (∀k,bad (k+1)=bad k++Uv rows owners ep aa text l z k):=⟨fun k=>by rw[hbad];exact UH _ _ _ _ _ _ _ _⟩
 have kbl:ah (∀k,(bad k).length<=k):=⟨fun k=>by rw[hbad];exact Wc _ _ _ _ _ _ _ _⟩
 rw[<-hbad] at kr
 clear hbad
 have hlr:(H6.loop rec).loops[H6.loops.length]?=some rec:=@kC H6 rec
 have XL:Ext h (H6.loop rec):=x6.trans ((Fr.lD (bn:=H6.boxes.length) (l0:=H6.loops.length) (n0:=H6.tn) H6 rec).ext (abq _) (abq _) (abq _))
 have hlen6:=(abm.1 aaQ).1
 have feed:=Vm H6.loops.length (h.boxes.length+8) (h.boxes.length+8+1) L Z l z (U9 h H6 (h.boxes.length+6) (H6.loop rec).loops bad) hp hll q1
  (fun k H q=>by
   obtain⟨_,_,-,-,-,-,-,q6,-,q8⟩:=q
   exact⟨q8 _ _ aaP (by omega),q8 _ _ aaQ (by omega),hz.mono fun c cs q=>q6.box _ _ q⟩)
  (fun k H cs q=>q.push cs) ?_ (H6.loop rec) ⟨.nil,0,rfl,by rw[kb0.out];exact j6,.inr ⟨kb0.out,rfl⟩,.inl rfl,hok6,XL,abq _,fun a cs q _=>q⟩
 rotate_left 1
 ·rintro k H hk ⟨t,s,i1,i2,i3,i4,i5,i6,i7,i8⟩
  have hlH:H.loops[H6.loops.length]?=some rec:=by rw[i1];exact hlr
  refine pC (Post:=U9 h H6 (h.boxes.length+6) (H6.loop rec).loops bad (k+1)) hlH (by rw[w2];rfl) w5 w6 ?_
  have r1:∀t,(dD H6.loops.length rec [im (rA l k),im (at0 z k)]).get t=if 32=t then im (at0 z k) else if 31=t then im (rA l k) else e4.get t:=fun t=>jn w2 w1
  have d1:(dD H6.loops.length rec [im (rA l k),im (at0 z k)]).defers=[]:=rfl
  obtain⟨K,hK⟩:∃K,H.busy H6.loops.length rec=K:=⟨_,rfl⟩
  have hKb:K.boxes=H.boxes:=by rw[<-hK];rfl
  have abc:=Vu (H:=K) (by rw[hKb];exact i8 _ _ abi (by omega))
  have u1:ai Tryz.prog Gt K 28 (.ptr (.box (h.boxes.length+1)) 0)=some T:=aQ Tj (by rw[hKb];exact i8 _ _ y1 (by omega)) rfl
  have u2:ai Tryz.prog Gt K 29 (.ptr (.box (h.boxes.length+2)) 0)=some L:=aQ KP (by rw[hKb];exact i8 _ _ y2 (by omega)) rfl
  have u3:ai Tryz.prog Gt K 131 (.ptr (.box (h.boxes.length+7)) 0)=some (.func (.func 90) [.ptr (.box (h.boxes.length+6)) 0] []):=aQ Yu (by rw[hKb];exact i8 _ _ j7 (by omega)) rfl
  have c1:=kf.out k hk
  have kb1:K.boxes[h.boxes.length+6]?=some [.list t s (ints (bad k))]:=by rw[hKb];exact i2
  have kc1:bG h.tn K t:=by rw[<-hK];exact i4
  have hbl:=kbl.out k
  have hbs:=kbs.out k
  unfold Uv at hbs
  cases hfit:(ia rows owners ep aa text l (rA l k) (at0 z k)).1 with
  |true=>
   rw[hfit] at c1 hbs
   rw[if_pos rfl,ab2] at hbs
   have kfin:ah (U9 h H6 (h.boxes.length+6) (H6.loop rec).loops bad (k+1) H):=⟨t,s,i1,by rw[hbs];exact i2,by rw[hbs];exact i3,i4,i5,i6,i7,i8⟩
   clear i1 i2 i3 i4 i5 i6 i7 i8 hbs hbl kb1 kc1 hfit abi y1 y2 y3 abj j6 j7 aaP aaQ x6 XL hok6 hlr hlen6 hp hz hz6 hKb
   generalize rA l k=wk at *
   generalize at0 z k=abl at *
   rw[hK]
   rw[w3,w4]
   unfold im at *
   refine gx4 @r1 @d1 @Vx @ab3.{0} ?_
   exact⟨trivial,trivial,trivial,(by first|trivial|rfl),by rw[<-hK];exact kfin.out⟩
  |false=>
   rw[hfit] at c1 hbs
   rw[if_neg (by simp)] at hbs
   have ca:=Yt K h.tn (h.boxes.length+6) t s (bad k) (rA l k) kb1 i3 (by omega) kc1
   rw[<-hbs] at ca
   have gr:=Grown.one i4 i5 i6.tn
   have kfin:ah (U9 h H6 (h.boxes.length+6) (H6.loop rec).loops bad (k+1) ((H.app t).put (h.boxes.length+6) [.list (.free H.tn) 1 (ints (bad (k+1)))])):=by
    have hl1:=(abm.1 i2).1
    refine⟨_,1,?_,?_,.inl rfl,by rw[jd];exact gr.can,gr.ok,(gr.ext i6 (abq _)).bZ (by omega) _,by rw[dU,aT];exact i7,fun a cs ha hne=>?_⟩
    ·show(H.app t).loops=_
     rw[ig];exact i1
    ·exact aS (by rw[aT];exact hl1)
    ·rw[av hne,aT];exact i8 a cs ha hne
   have hKt:K.tn=H.tn:=by rw[<-hK];rfl
   rw[hKt] at ca
   clear i1 i2 i3 i4 i5 i6 i7 i8 hbs hbl kb1 kc1 gr hfit abi y1 y2 y3 abj j6 j7 aaP aaQ x6 XL hok6 hlr hlen6 hp hz hz6 hKb hKt
   generalize rA l k=wk at *
   generalize at0 z k=abl at *
   rw[hK]
   rw[w3,w4]
   unfold im at *
   refine gx4 @r1 @d1 @Vx @ab3.{0} ?_
   refine⟨trivial,trivial,trivial,?_,?_⟩
   ·show(K.app t).loops=_
    rw[ig]
   ·rw[<-hK]
    refine(congrArg (U9 h H6 (h.boxes.length+6) (H6.loop rec).loops bad (k+1)) ?_).mpr kfin.out
    cases t<;>rfl
 ·obtain⟨Hf,c1,t,s,i1,i2,i3,i4,i5,i6,i7,i8⟩:=feed
  refine⟨_,_,c1,rec,by rw[i1];exact hlr,by rw[w5];decide,.inl ⟨w6,?_⟩⟩
  have v6:(Hf.bh H6.loops.length {rec with state:=.exhausted}).boxes[h.boxes.length+6]?=some [.list t s (ints (bad l.length))]:=i2
  have v3:(Hf.bh H6.loops.length {rec with state:=.exhausted}).boxes[h.boxes.length+3]?=some [nl]:=i8 _ _ y3 (by omega)
  have v4:(Hf.bh H6.loops.length {rec with state:=.exhausted}).boxes[h.boxes.length+4]?=some [im 0]:=i8 _ _ abj (by omega)
  have hLh:h.loops.length<=H6.loops.length:=x6.IV
  have XF:Ext h (Hf.bh H6.loops.length {rec with state:=.exhausted}):=((Fr.sF (bn:=h.boxes.length) (l0:=h.loops.length) (n0:=h.tn) i6 (abq _)).trans (.bh hLh _)).ext (abq _) (abq _) (abq _)
  generalize Hf.bh H6.loops.length {rec with state:=.exhausted}=HF at *
  have g3:=(abm.1 v3).1
  have lA:ai Tryz.prog Gt HF 23 (.ptr (.box (h.boxes.length+6)) 0)=some (.list t s (ints (bad l.length))):=aQ mo v6 rfl
  have sA:aA Tryz.prog HF 23 (.ptr (.box (h.boxes.length+3)) 0) (.list t s (ints (bad l.length)))=some (HF.put (h.boxes.length+3) [.list t s (ints (bad l.length))]):=
   aW (off:=0) (cs:=[nl]) (xs:=[.list t s (ints (bad l.length))]) rfl jC v3 rfl (abq 1)
  obtain⟨aan,hHG⟩:∃aan,HF.put (h.boxes.length+3) [.list t s (ints (bad l.length))]=aan:=⟨_,rfl⟩
  have v3':aan.boxes[h.boxes.length+3]?=some [.list t s (ints (bad l.length))]:=by rw[<-hHG];exact aS g3
  have v4':aan.boxes[h.boxes.length+4]?=some [im 0]:=by rw[<-hHG,av (by omega)];exact v4
  have XG:Ext h aan:=by rw[<-hHG];exact XF.bZ (by omega) _
  rw[hHG] at sA
  have sB:aA Tryz.prog aan 32 (.ptr (.box (h.boxes.length+4)) 0) (im 0)=some aan:=by
   rw[aW (off:=0) (cs:=[im 0]) (xs:=[im 0]) rfl Rs v4' rfl (abq 1)]
   exact congrArg some (ec v4')
  have aaW:ai Tryz.prog Gt aan 23 (.ptr (.box (h.boxes.length+3)) 0)=some (.list t s (ints (bad l.length))):=aQ mo v3' rfl
  have aaU:ai Tryz.prog Gt aan 32 (.ptr (.box (h.boxes.length+4)) 0)=some (im 0):=aQ DL v4' rfl
  have kfin:=ah.mk (abp XG i3)
  clear i1 i2 i3 i4 i5 i6 i7 i8 c1 abi y1 y2 y3 abj j6 j7 aaP aaQ x6 XL hok6 hlr hlen6 hp hz hz6 w1 w2 w3 w4 w5 w6 v3 v4 v6 v3' v4' XG XF hHG g3
  unfold im at *
  refine gx2 @Wb @Vx ?_
  exact⟨_,_,rfl,kfin.out.1,_,by rw[kr.out],by
   rw[kr.out]
   exact⟨t,s,rfl,fun q=>kfin.out.2.resolve_right fun z=>q z.1⟩⟩
theorem XE:Tryz.f31.results.toList=[.tmp 0]:=kZq
def pay:List UInt8:=[112,97,121]
theorem Yz:UC aat aas 1000 [77] [1,3] [5,6,7,8] pay=true:=by decide+kernel
theorem blP:aN Tryz.prog 28 3 [(0,.v (.int .u8 112)),(1,.v (.int .u8 97)),(2,.v (.int .u8 121))]=some (.list .tight 1 (u8s pay)):=kZq
theorem Wd(a:Int):aN Tryz.prog 23 1 [(0,.v (.int .i64 a))]=some (.list .tight 1 (ints [a])):=kZq
theorem XH(a b c d:Int):aN Tryz.prog 23 4 [(0,.v (.int .i64 a)),(1,.v (.int .i64 b)),(2,.v (.int .i64 c)),(3,.v (.int .i64 d))]=some (.list .tight 1 (ints [a,b,c,d])):=kZq
theorem Vn(l:List Int):IL (.list .tight 1 (ints l)) l:=⟨_,_,rfl,fun _=>rfl⟩
theorem rl4:RL X4 aat:=by
 refine⟨.tight,1,[.list .tight 1 (ints [1,1]),.list .tight 1 (ints [1,2]),.list .tight 1 (ints [1,3])],rfl,fun _=>rfl,rfl,fun i a r ha hr=>?_⟩
 match i with
 |0=>injection ha with ha;injection hr with hr;subst ha;subst hr;exact⟨_,_,rfl,fun _=>rfl⟩
 |1=>injection ha with ha;injection hr with hr;subst ha;subst hr;exact⟨_,_,rfl,fun _=>rfl⟩
 |2=>injection ha with ha;injection hr with hr;subst ha;subst hr;exact⟨_,_,rfl,fun _=>rfl⟩
 |i+3=>simp at ha
theorem Vo{rows:List (List Int)}{owners who N s y:List Int}{l:List Pr}{text:List UInt8}{ep:Int}(c:lP rows owners who N s y l text ep):cd rows owners ep (ax s) text []=420:=by
 obtain⟨hp,-⟩:=e7 c.acc
 unfold cd
 rw[if_neg (by rw[hp];simp),if_neg (by have:=c.ep;simp[(eE (rows:=rows) c.sl).1,(eE (rows:=rows) c.sl).2,this.1,this.2]),if_neg (by have:=c.tl;omega),if_neg (by simp),if_neg (by simp[NT.dy])]
 split
 simp
theorem lN{K:ae}{b:Nat}{ep:Int}{X Y C T L Z:AV}(hb:K.boxes[b]?=some (fa ep X Y C T L Z)):
 ai Tryz.prog Gt K 27 (.ptr (.box b) 0)=some (.agg (cI ep X Y C))/\ai Tryz.prog Gt K 28 (.ptr (.box b) 4)=some T/\ai Tryz.prog Gt K 29 (.ptr (.box b) 5)=some L/\ai Tryz.prog Gt K 23 (.ptr (.box b) 6)=some Z/\ai Tryz.prog Gt K 23 (.ptr (.box b) 3)=some C:=
 ⟨WS hb,aQ Tj hb rfl,aQ KP hb rfl,aQ mo hb rfl,aQ mo hb rfl⟩
theorem Um{H:ae}(x y:Int):aA Tryz.prog (H.push [im 0,im 0]) 50 (.ptr (.box H.boxes.length) 0) (.agg [im x,im y])=some (H.push [im x,im y]):=cQ rfl P1 rfl rfl
theorem UT(h:ae)(hok:aZ h=true):∃r h',W7.call 31 [] h=some (r,h')/\Ext h h'/\r=.ret (.v (.bool true)):=by
 obtain⟨y,cr,-⟩:=QM Yz
 have b1:=Xz
 obtain⟨x1,x2⟩:=rl4.ice kZq ⟨[],[],0,[]⟩
 obtain⟨y1,y2⟩:=(show IL Y4 aas from Vn _).ice ⟨[],[],0,[]⟩
 generalize jK ⟨[],[],0,[]⟩ X4=X at *
 generalize jK ⟨[],[],0,[]⟩ Y4=Y at *
 obtain⟨H5,H6,f1,f2,x6,f3⟩:=B8 h hok (u8s pay)
 have ok6:=x6.ok hok
 obtain⟨X2,Y2,C2,T2,L2,Z2,g1,g2,g3,g4,g5,g6,c1⟩:∃X2 Y2 C2 T2 L2 Z2,RL X2 aat/\IL Y2 aas/\IL C2 (ax [1000,77])/\BL T2 pay/\PL L2 (bq [1,3] [5,6,7,8])/\IL Z2 (db aat aas [1000,77] [1,3] [5,6,7,8] (bq [1,3] [5,6,7,8]) pay)/\
  ∀h,W7.call 38 [.agg [X,Y],im 1000,.list .tight 1 (ints [77]),.list .tight 1 (ints [1,3]),.list .tight 1 (ints [5,6,7,8]),.list .held 1 (u8s pay)] h=some (.ret (.tuple [.agg (fa 0 X2 Y2 C2 T2 L2 Z2),.v (.bool true),.v (.bool true)]),h):=by
  rcases Uf X Y _ _ _ (.list .held 1 (u8s pay)) aat aas 1000 [77] [1,3] [5,6,7,8] pay x1 y1 (Vn _) (Vn _) (Vn _) ⟨_,_,rfl,fun _=>rfl⟩ (by decide) (by decide) (by decide) with⟨q,-⟩|⟨-,q⟩
  ·rw[Yz] at q;cases q
  ·exact q
 have cells:=N0 (ep:=0) g1 g2 g3 g4 g5 g6
 generalize hl:bq [1,3] [5,6,7,8]=l at *
 have hll:l.length=2:=by rw[<-hl];rfl
 obtain⟨p0,p1,hz⟩:∃p0 p1,db aat aas [1000,77] [1,3] [5,6,7,8] l pay=[p0,p1]:=⟨_,_,rfl⟩
 have hp1:yh aat aas [1000,77] [1,3] [5,6,7,8] l pay 1=p1:=by
  have:=NS (rows:=aat) (owners:=aas) (s:=[1000,77]) (N:=[5,6,7,8]) (l:=l) (text:=pay) (who:=[1,3]) (i:=1) (by decide)
  rw[hz] at this;exact this.symm
 have hpo:okF p1:=by rw[<-hp1];exact Uk 1
 have hcl:(ax [1000,77]).length<=1000000:=by decide
 obtain⟨H1,hH1⟩:∃H1,H6.push (fa 0 X2 Y2 C2 T2 L2 Z2)=H1:=⟨_,rfl⟩
 have s1:aA Tryz.prog (H6.push (fa 0 nl nl nl nl nl nl)) 66 (.ptr (.box H6.boxes.length) 0) (.agg (fa 0 X2 Y2 C2 T2 L2 Z2))=some H1:=by rw[<-hH1];exact cQ cells Uo rfl rfl
 have t1:H1.boxes[H6.boxes.length]?=some (fa 0 X2 Y2 C2 T2 L2 Z2):=by rw[<-hH1];exact ak _ _
 have e1:Ext h H1:=by rw[<-hH1];exact x6.trans (.push _ _)
 generalize hb:H6.boxes.length=b at *
 have l1:=lN t1
 obtain⟨_,H2,k2,e2,rfl⟩:=p7 H1 0 X2 Y2 C2 T2 L2 Z2 aat aas (ax [1000,77]) pay l _ g1 g2 g3 g4 g5 hcl (by omega) (by decide) (.inl g6) (by rw[hz];simp)
 rw[cr.comb] at k2
 have hv:=cr.QU
 rw[hz] at k2 hv g6
 generalize hch:((aG (at0 (ax [1000,77]) 0) pay l:Nat):Int)=ch at *
 generalize hsm:([p0,p1]:List Int).foldl cN 0=sm at *
 obtain⟨H3,hH3⟩:∃H3,H2.push [im ch,im sm]=H3:=⟨_,rfl⟩
 have s2:=Um (H:=H2) ch sm
 rw[hH3] at s2
 have t2:=e2.box _ _ t1
 have l2:=lN t2
 have e3:Ext H2 H3:=by rw[<-hH3];exact .push _ _
 have t3:=e3.box _ _ t2
 have l3:=lN t3
 have u3:H3.boxes[H2.boxes.length]?=some [im ch,im sm]:=by rw[<-hH3];exact ak _ _
 have Z1:=(e1.trans e2).trans e3
 obtain⟨_,H4,k4,e4,B4,rfl,hB4⟩:=Uh H3 (Z1.ok hok) 0 X2 Y2 C2 T2 L2 Z2 aat aas (ax [1000,77]) pay l _ g1 g2 g3 g4 g5 hcl (by omega) (.inl g6) (by simp)
 rw[<-hz,cr.UB] at k4 hB4
 have t4:=e4.box _ _ t3
 have l4:=lN t4
 have Z4:=Z1.trans e4
 obtain⟨_,H5b,k5,e5,B5,rfl,hB5⟩:=Uh H4 (Z4.ok hok) 0 X2 Y2 C2 T2 L2 (.list .tight 1 (ints [p0,(p1+1)%1073741789])) aat aas (ax [1000,77]) pay l _ g1 g2 g3 g4 g5 hcl (by omega) (.inl (Vn _)) (by simp)
 have hone:=(cr.UK (i:=1) (v:=(p1+1)%1073741789) (by decide) ⟨Int.emod_nonneg _ (by decide),Int.emod_lt_of_pos _ (by decide)⟩ (by rw[hp1];obtain⟨q1,q2⟩:=hpo;have:Qi=1073741789:=rfl;omega)).1
 rw[hz] at hone
 change sw aat aas 0 (ax [1000,77]) pay l [p0,(p1+1)%1073741789]=([3],0) at hone
 rw[hone] at k5 hB5
 have t5:=e5.box _ _ t4
 have l5:=lN t5
 have E5:=Z4.trans e5
 have hn:QK aat aas 0 (ax [1000,77]) pay [] []=((0,0),false,420):=by
  unfold QK
  rw[Vo cr,if_pos (by decide)]
 obtain⟨_,aak,k7,aaG,rfl⟩:=p7 H5b 0 X2 Y2 C2 T2 nl nl aat aas (ax [1000,77]) pay [] [] g1 g2 g3 g4 ⟨_,_,rfl,fun q=>absurd rfl q⟩ hcl (by decide) (by decide) (.inl ⟨_,_,rfl,fun q=>absurd rfl q⟩) (by decide)
 rw[hn] at k7
 obtain⟨aal,hH8⟩:∃aal,aak.push [im 0,im 0]=aal:=⟨_,rfl⟩
 have aa2:=Um (H:=aak) 0 0
 rw[hH8] at aa2
 have e8:Ext aak aal:=by rw[<-hH8];exact .push _ _
 have t8:=e8.box _ _ (aaG.box _ _ t5)
 have aaS:=lN t8
 have E8:=(E5.trans aaG).trans e8
 have hz0:okZ l []=false:=by unfold okZ;rw[hll];rfl
 obtain⟨_,aam,k9,e9,rfl⟩:=p7 aal 0 X2 Y2 C2 T2 L2 nl aat aas (ax [1000,77]) pay l [] g1 g2 g3 g4 g5 hcl (by omega) (by decide) (.inl ⟨_,_,rfl,fun q=>absurd rfl q⟩) (by decide)
 rw[cr.U6 hz0] at k9
 obtain⟨aao,hHa⟩:∃aao,aam.push [im 0,im 0]=aao:=⟨_,rfl⟩
 have sa:=Um (H:=aam) 0 0
 rw[hHa] at sa
 have ea:Ext aam aao:=by rw[<-hHa];exact .push _ _
 have ta:=ea.box _ _ (e9.box _ _ t8)
 have la:=lN ta
 have aaj:=(E8.trans e9).trans ea
 have hzq:okZ l [0,1073741789]=false:=by unfold okZ;rw[hll];rfl
 obtain⟨_,Hb,kb,eb,Z0,rfl,hBb⟩:=Uh aao (aaj.ok hok) 0 X2 Y2 C2 T2 L2 (.list .tight 1 (ints [0,1073741789])) aat aas (ax [1000,77]) pay l _ g1 g2 g3 g4 g5 hcl (by omega) (.inl (Vn _)) (by simp)
 rw[cr.UJ hzq] at kb hBb
 have tb:=eb.box _ _ ta
 have lb:=lN tb
 have abd:=(((((e4.trans e5).trans aaG).trans e8).trans e9).trans ea).trans eb
 have lS:=Sh (abd.box _ _ u3)
 have vf:=Uq (at0 (ax [1000,77]) 0) ch sm T2 pay g4 (by decide)
 rw[hv] at vf
 have sm7:=Wa B5 (.list .tight 1 (ints [3])) [3] [3] hB5 (Vn _) (by decide) (by decide)
 rw[decide_eq_true rfl] at sm7
 have ixC:ay Tryz.prog 23 C2 (.v (.int .i64 0))=some (.elem 1 (ints (ax [1000,77])) 0 0):=g3.ix (i:=0) (by decide)
 have ldC:∀K:ae,ai Tryz.prog Gt K 3 (.elem 1 (ints (ax [1000,77])) 0 0)=some (.v (.int .i64 (at0 (ax [1000,77]) 0))):=fun K=>ldi (by decide)
 have ixA:ay Tryz.prog 23 Z2 (.v (.int .i64 0))=some (.elem 1 (ints [p0,p1]) 0 0):=g6.ix (i:=0) (by simp)
 have ixB:ay Tryz.prog 23 Z2 (.v (.int .i64 1))=some (.elem 1 (ints [p0,p1]) 1 0):=g6.ix (i:=1) (by simp)
 have ldA:∀K:ae,ai Tryz.prog Gt K 3 (.elem 1 (ints [p0,p1]) 0 0)=some (.v (.int .i64 p0)):=fun K=>ldi (by simp)
 have ldB:∀K:ae,ai Tryz.prog Gt K 3 (.elem 1 (ints [p0,p1]) 1 0)=some (.v (.int .i64 p1)):=fun K=>ldi (by simp)
 have lnZ:cH Tryz.prog 23 Z2=some (.v (.int .i64 2)):=g6.cH
 have lnB:cH Tryz.prog 23 B4=some (.v (.int .i64 0)):=hB4.cH
 have wr:IntKind.i64.wrap (p1+1)=p1+1:=by obtain⟨q1,q2⟩:=hpo;have:Qi=1073741789:=rfl;exact bT (by omega) (by omega)
 have aba:(p1+1).tmod 1073741789=(p1+1)%1073741789:=Int.tmod_eq_emod_of_nonneg (by obtain⟨q1,q2⟩:=hpo;omega)
 have bw:=UD p0 ((p1+1)%1073741789)
 have bl0:=UD 0 1073741789
 have kx:=ah.mk (aaj.trans eb)
 have zc:=VG
 have zg:=Sf
 have g0:=blP
 clear cr x1 x2 y1 y2 g1 g2 g3 g4 g5 g6 cells hl hz hp1 hpo hcl hH1 t1 e1 hv hch hsm hH3 t2 e3 t3 u3 Z1 e2 e4 t4 Z4 e5 t5 E5 hone hB4 hB5 hn aaG e8 t8 E8 hz0 e9 ea ta aaj hzq eb tb abd hBb x6 ok6 f3 hll hok
 generalize at0 (ax [1000,77]) 0=key at *
 generalize ints (ax [1000,77])=ic at *
 generalize (p1+1)%1073741789=w1 at *
 generalize u8s pay=tt at *
 unfold im at *
 refine aL rfl Tryz.func31 rfl ?_
 refine gx6 @XE @Wd @XH @UD @Tx @hb ?_
 refine bf Up kZq ?_
 refine gx3 @XE @UD @Tx ?_
 refine bf Up kZq ?_
 refine gx4 @XE @Wd @Tx @fF ?_
 exact⟨_,_,rfl,kx.out,rfl⟩
end Go.Proofs.YtnfciiiohoafaaaGreatDoor
end
section
namespace Go.Proofs.YtnfciiiohoafaaaGreatDoor
open Go.AE Go.NT Go.RowKit
theorem Lk:ownKnob Tryz.prog.godebug=none:=kZq
theorem D3:(Tryz.prog.funcs.all fun fn=>match fn.body with|some c=>codeOk fn.ntmps c|none=>true)=true:=kZq
theorem D4 : (Tryz.prog.funcs.all fun fn => !(fn.name == "runtime.NumGoroutine")) = true := kZq
theorem jl:Prog Tryz.prog:=⟨fun g fn h=>by
 have:=aep.1 D4 fn (ad7 h)
 simpa using this,kZq,fun g fn c h hb=>by
 have:=aep.1 D3 fn (ad7 h)
 simpa [hb] using this⟩
theorem sX:∀g cs,Gt g=some cs->bA 0 0 0 cs=true:=by
 intro g cs h
 unfold Gt at h
 split at h
 ·injection h with h;subst h;kernel_rfl
 ·split at h
  ·injection h with h;subst h;kernel_rfl
  ·split at h
   ·injection h with h;subst h;rfl
   ·cases h
noncomputable def Qc(L:List FuncId):Bool:=L.all fun g=>match Tryz.prog.funcs[g]? with|some fn=>fn.body.isSome|none=>false
theorem il{L:List FuncId}(h:Qc L=true):∀g∈L,∃fn,Tryz.prog.funcs[g]?=some fn/\fn.body.isSome=true:=by
 intro g hg
 have:=abE.1 h g hg
 split at this
 ·rename_i fn hf;exact⟨fn,hf,this⟩
 ·cases this
def POk(p:FuncId->Option (List AV->ae->Option (AV × ae))):Prop:=∀V g q,p g=some q->jb Tryz.prog Gt V g q
theorem TL:POk prims:=fun V g q h=>by cases h
theorem TM:POk DF:=iN jl sX TL (il kZq)
theorem TN:POk DH:=iN jl sX TM (il kZq)
theorem TO:POk Kn:=iN jl sX TN (il kZq)
theorem TP:POk sP:=iN jl sX TO (il kZq)
theorem TQ:POk sQ:=BD jl sX TP (il kZq) (il kZq)
theorem TR:POk D0:=iN jl sX TQ (il kZq)
def v8:List Int:=NT.start.map fun v=>((v.toNat:Nat):Int)
def oY:List Int:=NT.xo.map fun(n:Nat)=>(n:Int)
theorem E9{K:aB}{l:List Int}:ao K (l.map fun n=>AV.v (.int .u32 n)) (l.map fun n=>Value.int .u32 n):=by
 induction l with
 |nil=>exact .nil
 |cons n l ih=>exact .cons _ _ _ _ (.v _ rfl) ih
theorem Sv{W:World}(h:laidMetH Tryz.prog Rows.partialSignsRow.laid W):∀g cs,Gt g=some cs->∃cells,ao (aB.init W) cs cells/\∀(j:Nat) (c:Value),cells[j]?=some c->W.cell? ⟨g,j,none⟩=some c:=by
 rw[MakeChecks.laidMetH_plain _ _ _ kZq] at h
 have e1:(Lib.tabData .u32 v8:DataW Unit)=Rows.laid_signatory_digest_start:=kZq
 have e2:(Lib.tabData .u32 oY:DataW Unit)=Rows.laid_signatory_digest_numbers:=kZq
 intro g cs hg
 unfold Gt at hg
 split at hg
 ·rename_i h0
  injection hg with hg
  subst hg;subst h0
  have t := Lib.tabIs_of_head (n := 8) (g := 0) (t := 229) (e := 42) (zs := v8) (k := .u32) (name := "signatory/digest.start") kZq kZq kZq kZq kZq kZq (by rw [e1]; exact h)
  refine⟨v8.map fun n=>Value.int .u32 n,?_,fun j c hc=>?_⟩
  ·have:Dj=v8.map fun n=>AV.v (.int .u32 n):=by unfold Dj v8 w32;rw[ad5];rfl
   rw[this];exact E9
  ·rw[abF,abv] at hc
   obtain⟨n,hn,rfl⟩:=hc
   have hl:=(abm.1 hn).1
   rw[t.cell kZq j hl,abw,hn];rfl
 ·split at hg
  ·rename_i _ h0
   injection hg with hg
   subst hg;subst h0
   have t := Lib.tabIs_of_head (n := 64) (g := 1) (t := 242) (e := 42) (zs := oY) (k := .u32) (name := "signatory/digest.numbers") kZq kZq kZq kZq kZq kZq (by rw [e2]; exact h.tail)
   refine⟨oY.map fun n=>Value.int .u32 n,?_,fun j c hc=>?_⟩
   ·have:oM=oY.map fun n=>AV.v (.int .u32 n):=by unfold oM oY;rw[ad5];rfl
    rw[this];exact E9
   ·rw[abF,abv] at hc
    obtain⟨n,hn,rfl⟩:=hc
    have hl:=(abm.1 hn).1
    rw[t.cell kZq j hl,abw,hn];rfl
  ·split at hg
   ·injection hg with hg
    subst hg
    exact⟨[],.nil,fun j c hc=>by simp at hc⟩
   ·cases hg
section
variable {H:Type}
theorem cc3:Tryz.prog.cellsOf 3=1:=kZq
theorem cc5:Tryz.prog.cellsOf 5=1:=kZq
theorem TS:Tryz.prog.cellsOf 22=1:=kZq
theorem Sw:Tryz.prog.cellsOf 23=1:=kZq
theorem TT:Tryz.prog.cellsOf 25=2:=kZq
theorem Sx:oD Tryz.prog 25 [(22,0),(23,1)]=true:=kZq
theorem Ca{cs:List AV}{d:DataW H}(h:Has Tryz.prog 23 cs d):∃x l,cs=[x]/\IL x l:=by
 obtain⟨k,es,rfl,hl,-,-,he⟩:=h.kj Tryz.underlying23
 obtain⟨l,rfl⟩:∃l:List Int,es=l.map nC:=Ei fun r hr=>by
  obtain⟨-,d,hd⟩:=he r hr
  obtain⟨n,hn,-⟩:=hd.yZ Tryz.underlying3
  exact⟨n,hn⟩
 exact⟨_,l,rfl,k,_,rfl,fun _=>cc3⟩
theorem Ll{cs:List AV}{d:DataW H}(h:Has Tryz.prog 22 cs d):∃x rows,cs=[x]/\RL x rows:=by
 obtain⟨k,es,rfl,hl,-,-,he⟩:=h.kj Tryz.underlying22
 have hh:∀r∈es,∃x l,r=[x]/\IL x l:=fun r hr=>by
  obtain⟨-,d,hd⟩:=he r hr
  exact Ca hd
 clear hl he
 have key:∀es:List (List AV),(∀r∈es,∃x l,r=[x]/\IL x l)->∃(xs:List AV) (rows:List (List Int)),es=xs.map (fun a=>[a])/\xs.length=rows.length/\∀(i:Nat) (a:AV) (r:List Int),xs[i]?=some a->rows[i]?=some r->IL a r:=by
  intro es
  induction es with
  |nil=>intro _;exact⟨[],[],rfl,rfl,fun i a r ha=>by simp at ha⟩
  |cons e es ih=>
   intro hh
   obtain⟨x,l,rfl,hx⟩:=hh e abM
   obtain⟨xs,rows,rfl,h1,h2⟩:=ih fun r hr=>hh r (abH _ hr)
   refine⟨x::xs,l::rows,rfl,by simp[h1],fun i a r ha hr=>?_⟩
   cases i with
   |zero=>simp at ha hr;subst ha;subst hr;exact hx
   |succ i=>exact h2 i a r (by simpa using ha) (by simpa using hr)
 obtain⟨xs,rows,rfl,h1,h2⟩:=key es hh
 exact⟨_,rows,rfl,k,_,xs,rfl,fun _=>Sw,h1,h2⟩
theorem Lm{x:AV}{d:DataW H}(h:jy Tryz.prog 25 x d):∃X Y rows owners,x=.agg [X,Y]/\RL X rows/\IL Y owners:=by
 obtain⟨xs,rfl,hl,hg⟩:=h.fields Sx
 rw[TT] at hl
 obtain⟨a,b,rfl⟩:=Qg hl
 obtain⟨_,q0⟩:=hg 0 22 0 rfl
 obtain⟨_,q1⟩:=hg 1 23 1 rfl
 rw[TS] at q0
 rw[Sw] at q1
 obtain⟨X,rows,e1,hx⟩:=Ll q0
 obtain⟨Y,owners,e2,hy⟩:=Ca q1
 simp at e1 e2
 subst e1;subst e2
 exact⟨_,_,rows,owners,rfl,hx,hy⟩
theorem HO{x:AV}{d:DataW H}(h:jy Tryz.prog 28 x d):∃l:List UInt8,BL x l:=by
 obtain⟨k,es,rfl,h2,-,-,h4⟩:=h.kj Tryz.underlying28
 obtain⟨l,rfl⟩:=Ei (f:=dp) fun r hr=>by
  obtain⟨-,d,h5⟩:=h4 r hr
  exact h5.C7 kZq
 exact⟨l,k,_,rfl,fun _=>cc5⟩
end
def Ln:List TypeId:=[3,4,5,22,23,25,42,43,44,28]
theorem WH:POk US:=iN jl sX TR (il kZq)
section
variable {H:Type}
theorem sW{x:AV}{d:DataW H}(h:jy Tryz.prog 23 x d):∃l,IL x l/\l.length<=9223372036854775807:=by
 obtain⟨k,es,rfl,hl,-,-,he⟩:=h.kj Tryz.underlying23
 obtain⟨l,rfl⟩:∃l:List Int,es=l.map nC:=Ei fun r hr=>by
  obtain⟨-,d,hd⟩:=he r hr
  obtain⟨n,hn,-⟩:=hd.yZ Tryz.underlying3
  exact⟨n,hn⟩
 refine⟨l,⟨k,_,rfl,fun _=>cc3⟩,?_⟩
 rw[List.length_map] at hl
 exact abT hl (by decide)
theorem We{x:AV}{d:DataW H}(h:jy Tryz.prog 5 x d):∃n:Int,x=.v (.int .u8 n)/\0<=n/\n<256:=by
 have u5:Tryz.prog.underlying 5=some (.int .u8):=kZq
 obtain⟨n,h1,h2,h3⟩:=(h.plain (fun _ hq=>by rw[u5] at hq;cases hq) (fun _ _ hq=>by rw[u5] at hq;cases hq)).rk u5
 injection h1 with h1
 simp[IntKind.min,IntKind.max,IntKind.signed,IntKind.bits] at h2 h3
 exact⟨n,h1,h2,by omega⟩
end
end Go.Proofs.YtnfciiiohoafaaaGreatDoor
end
section
namespace Go.AE
open Go.RowKit Go.WideShapes Go.ChangeShapes
def Cc(P:Program)(S:List TypeId)(t:TypeId):Bool:=
 match P.underlying t with
 |some .bool|some (.int _)|some .string=>true
 |some (.slice e)=>S.contains e&&decide (0<P.cellsOf e)
 |some (.struct fs)=>uW P 0 fs.toList (P.cellsOf t)&&fs.toList.all fun f=>S.contains f.type
 |some (.array m e)=>Nat.beq (P.cellsOf t) (m * P.cellsOf e)&&S.contains e
 |_=>false
def Fa(P:Program)(S:List TypeId):Bool:=S.all (Cc P S)
section
variable {H:Type} {enc:TypeId × Value->H} {P:Program} {W:World}
theorem HP{S:List TypeId}(hS:Fa P S=true):∀(fuel:Nat) (t:TypeId) (cs:List Value) (x:DataW H × List MemPlace),DataW.trod enc P W 0 (fun _=>true) true fuel t cs=some x->S.contains t=true->
 ∃xs,ao (aB.init W) xs cs/\xs.all AV.bu=true/\Has P t xs x.1:=by
 intro fuel
 induction fuel with
 |zero=>intro t cs x h;simp[DataW.trod] at h
 |succ fuel ih=>
  intro t cs x h hin
  have hok:Cc P S t=true:=abE.1 hS t (by simpa using hin)
  unfold Cc at hok
  split at hok
  ·rename_i hu
   obtain⟨b,rfl,rfl⟩:=DataW.trod_bool hu h
   exact⟨_,.cons _ _ _ _ (.v _ rfl) .nil,rfl,.bool hu b⟩
  ·rename_i k hu
   obtain⟨m,rfl,rfl,hw⟩:=DataW.trod_int hu h
   exact⟨_,.cons _ _ _ _ (.v _ rfl) .nil,rfl,.int hu m hw⟩
  ·rename_i hu
   obtain⟨s,rfl,rfl,hs⟩:=DataW.trod_string hu h
   exact⟨_,.cons _ _ _ _ (.v _ rfl) .nil,rfl,.str hu s hs⟩
  ·rename_i e hu
   rw[abr,decide_eq_true_eq] at hok
   obtain⟨hoke,hpos⟩:=hok
   rcases DataW.trod_slice hu h with⟨rfl,rfl⟩|⟨a,len,cap,elems,rest,m,hm,rfl,rfl,-,hlc,hcm,hel,helem,hspare,-⟩
   ·exact⟨_,.cons _ _ _ _ (.nil _) .nil,rfl,.none hu⟩
   ·have hm:m=fuel:=by omega
    subst hm
    obtain⟨hrl,hrest⟩:=hspare rfl
    have elemAt:∀i,i<len->∃vs r y,W.cells? 0 (a.add (i * P.cellsOf e)) (P.cellsOf e)=some vs/\elems[i]?=some y/\ao (aB.init W) r vs/\r.all AV.bu=true/\Has P e r y.1:=by
     intro i hi
     have h1:=helem i hi
     rw[abo (by omega:i<elems.length)] at h1
     cases hc:W.cells? 0 (a.add (i * P.cellsOf e)) (P.cellsOf e) with
     |none=>rw[hc] at h1;cases h1
     |some vs=>
      rw[hc] at h1
      obtain⟨r,g1,g2,g3⟩:=ih e vs _ h1 hoke
      exact⟨vs,r,_,rfl,abo _,g1,g2,g3⟩
    by_cases hcap:cap=0
    ·have hlen:len=0:=by omega
     subst hcap;subst hlen
     have he:elems=[]:=List.eq_nil_of_length_eq_zero hel
     subst he
     refine⟨[.list .tight (P.cellsOf e) []],.cons _ _ _ _ (.eK _ _) .nil,rfl,?_⟩
     show Has P t _ (.slice [] (rest.map (·.1)))
     exact .list hu .tight [] [] (rest.map (·.1)) (.inr ⟨rfl,rfl⟩) (abG _) rfl (by simp) (by simp)
    ·-- the block is there
     have hspot:a.spot=none:=by
      have:∃vs,W.cells? 0 (a.add 0) (P.cellsOf e)=some vs:=by
       rcases Nat.eq_zero_or_pos len with h0|h0
       ·have h1:=hrest 0 (by omega)
        rw[abo (by omega:0<rest.length)] at h1
        cases hc:W.cells? 0 (a.add ((len+0) * P.cellsOf e)) (P.cellsOf e) with
        |none=>rw[hc] at h1;cases h1
        |some vs=>rw[h0] at hc;exact⟨vs,by simpa using hc⟩
       ·obtain⟨vs,_,_,hc,_⟩:=elemAt 0 h0
        exact⟨vs,by simpa using hc⟩
      obtain⟨vs,hvs⟩:=this
      obtain⟨hl,hg⟩:=uX hvs
      have h0:=hg 0 hpos
      rw[abo (by omega:0<vs.length)] at h0
      have:(a.add 0).add 0=a:=by simp[Addr.add]
      rw[this] at h0
      exact FP h0
     obtain⟨g,off,sp⟩:=a
     simp only at hspot
     subst hspot
     have rows:∀k,k<=len->∃es:List (List AV),es.length=k/\(∀r∈es,r.length=P.cellsOf e/\r.all AV.bu=true)/\(∀(i:Nat) (r:List AV) (d:DataW H),es[i]?=some r->(elems.map (·.1))[i]?=some d->Has P e r d)/\
      ∃cells:List Value,cells.length=k * P.cellsOf e/\ao (aB.init W) es.flatten cells/\∀(j:Nat) (c:Value),cells[j]?=some c->W.cell? ⟨g,off+j,none⟩=some c:=by
      intro k
      induction k with
      |zero=>intro _;exact⟨[],rfl,by simp,by simp,[],by simp,.nil,by simp⟩
      |succ k ihk=>
       intro hk
       obtain⟨es,e1,e2,e3,cells,c1,c2,c3⟩:=ihk (by omega)
       obtain⟨vs,r,y,hc,hy,g1,g2,g3⟩:=elemAt k (by omega)
       obtain⟨hvl,hvg⟩:=uX hc
       refine⟨es++[r],by simp[e1],fun r' hr'=>?_,fun i r' d hi hd=>?_,cells++vs,by simp[c1,hvl,ab4],?_,fun j c hj=>?_⟩
       ·rcases List.mem_append.1 hr' with h1|h1
        ·exact e2 r' h1
        ·simp only[acg] at h1
         subst h1
         exact⟨by rw[g1.length,hvl],g2⟩
       ·rcases cR hi with h1|⟨h1,rfl⟩
        ·exact e3 i r' d h1 hd
        ·rw[h1,e1,abF,hy] at hd
         simp only[abJ,abA] at hd
         subst hd
         exact g3
       ·rw[List.flatten_append]
        simpa using c2.append g1
       ·rcases abL j cells.length with h1|h1
        ·rw[List.getElem?_append_left h1] at hj
         exact c3 j c hj
        ·rw[List.getElem?_append_right h1] at hj
         have hjl:j - cells.length<P.cellsOf e:=by
          have:=(abm.1 hj).1
          omega
         have h2:=hvg _ hjl
         rw[hj,Addr.dh,Addr.dh] at h2
         rw[show off+j=off+k * P.cellsOf e+(j - cells.length) by omega]
         exact h2
     obtain⟨es,e1,e2,e3,cells,c1,c2,c3⟩:=rows len (abq _)
     have hall:es.flatten.all AV.bu=true:=by
      rw[List.all_flatten]
      simp only[abE]
      intro r hr
      have:=(e2 r hr).2
      simpa using this
     refine⟨[.list .held (P.cellsOf e) es],.cons _ _ _ _ (.list .held (P.cellsOf e) es g off len cap cells e1.symm (fun r hr=>(e2 r hr).1) c2 c3 ⟨hlc,trivial⟩ hall) .nil,rfl,?_⟩
     exact .list hu .held es (elems.map (·.1)) (rest.map (·.1)) (.inl rfl) (by omega) (by simp[e1,hel]) e3 (fun r hr=>(e2 r hr).1)
  ·rename_i fs hu
   rw[abr,abE] at hok
   obtain⟨htile,hall⟩:=hok
   obtain⟨ys,m,hm,rfl,hcl,hyl,hat⟩:=DataW.trod_struct hu h
   have hm:m=fuel:=by omega
   subst hm
   have fld:∀(i:Nat) (f:Field),fs[i]?=some f->∃r y,ys[i]?=some y/\ao (aB.init W) r ((cs.drop f.offset).take (P.cellsOf f.type))/\r.all AV.bu=true/\Has P f.type r y.1:=by
    intro i f hf
    have h1:=hat i f hf
    have hlt:i<ys.length:=by rw[hyl];exact(acD.1 hf).1
    rw[abo hlt] at h1
    obtain⟨r,g1,g2,g3⟩:=ih f.type _ _ h1 (hall f (by
     obtain⟨hi,rfl⟩:=acD.1 hf
     exact Array.mem_toList_iff.2 (Array.getElem_mem hi)))
    exact⟨r,_,abo hlt,g1,g2,g3⟩
   have build:∀(l:List Field) (i off:Nat),(∀j f,l[j]?=some f->fs[i+j]?=some f)->uW P off l (P.cellsOf t)=true->off<=cs.length->
    ∃xs,ao (aB.init W) xs (cs.drop off)/\xs.all AV.bu=true/\∀j f,l[j]?=some f->off<=f.offset/\∃r y,ys[i+j]?=some y/\(xs.drop (f.offset - off)).take (P.cellsOf f.type)=r/\Has P f.type r y.1:=by
    intro l
    induction l with
    |nil=>
     intro i off _ ht _
     have hoff:off=P.cellsOf t:=abR ht
     refine⟨[],?_,rfl,fun j f hj=>by simp at hj⟩
     rw[hoff,<-hcl,List.drop_length]
     exact .nil
    |cons f l ihl=>
     intro i off hl ht hle
     rw[uW,abr] at ht
     have ho:f.offset=off:=abR ht.1
     obtain⟨r,y,hy,g1,g2,g3⟩:=fld i f (by simpa using hl 0 f rfl)
     have hlen2:off+P.cellsOf f.type<=cs.length:=by
      rw[hcl]
      have:∀(l:List Field) (o:Nat),uW P o l (P.cellsOf t)=true->o<=P.cellsOf t:=by
       intro l
       induction l with
       |nil=>intro o h;exact Nat.le_of_eq (abR h)
       |cons f l ih=>intro o h;rw[uW,abr] at h;exact abT (Nat.le_add_right _ _) (ih _ h.2)
      exact this l _ ht.2
     obtain⟨xs,x1,x2,x3⟩:=ihl (i+1) (off+P.cellsOf f.type) (fun j f' hj=>by
      have:=hl (j+1) f' (by simpa using hj)
      rwa [show i+(j+1)=i+1+j by omega] at this) ht.2 hlen2
     rw[ho] at g1
     have hrl:r.length=P.cellsOf f.type:=by rw[g1.length];simp;omega
     refine⟨r++xs,?_,by rw[adE,g2,x2];rfl,fun j f' hj=>?_⟩
     ·have:=g1.append x1
      rw[<-adb,List.take_append_drop] at this
      exact this
     ·cases j with
      |zero=>
       simp only[List.getElem?_cons_zero,abA] at hj
       subst hj
       refine⟨by omega,r,y,hy,?_,g3⟩
       rw[ho,Nat.sub_self,abZ,<-hrl,List.take_left]
      |succ j=>
       obtain⟨hge,r',y',hy',hr',hh⟩:=x3 j f' (by simpa using hj)
       refine⟨by omega,r',y',by rw[show i+(j+1)=i+1+j by omega];exact hy',?_,hh⟩
       rw[show f'.offset - off=r.length+(f'.offset - (off+P.cellsOf f.type)) by omega,<-adb,agK]
       exact hr'
   obtain⟨xs,x1,x2,x3⟩:=build fs.toList 0 0 (fun j f hj=>by simpa using hj) htile (abG _)
   rw[abZ] at x1
   refine⟨xs,x1,x2,.struct hu xs (ys.map (·.1)) (by rw[x1.length,hcl]) (by simp[hyl]) fun i f d hf hd=>?_⟩
   obtain⟨-,r,y,hy,hr,hh⟩:=x3 i f (by simpa using hf)
   rw[Nat.zero_add] at hy
   rw[abF,hy] at hd
   simp only[abJ,abA] at hd
   subst hd
   rw[Nat.sub_zero] at hr
   rw[hr];exact hh
  ·rename_i m e hu
   rw[abr] at hok
   have hsz:P.cellsOf t=m * P.cellsOf e:=abR hok.1
   obtain⟨ys,fu,hfu,rfl,hcl,hyl,hat⟩:=DataW.trod_array hu h
   have hfu:fu=fuel:=by omega
   subst hfu
   have rows:∀k,k<=m->∃xs,ao (aB.init W) xs (cs.take (k * P.cellsOf e))/\xs.all AV.bu=true/\∀i,i<k->∃y,ys[i]?=some y/\Has P e ((xs.drop (i * P.cellsOf e)).take (P.cellsOf e)) y.1:=by
    intro k
    induction k with
    |zero=>intro _;exact⟨[],by simp;exact .nil,rfl,fun i hi=>absurd hi (Nat.not_lt_zero i)⟩
    |succ k ihk=>
     intro hk
     obtain⟨xs,x1,x2,x3⟩:=ihk (by omega)
     have h1:=hat k (by omega)
     rw[abo (by omega:k<ys.length)] at h1
     obtain⟨r,g1,g2,g3⟩:=ih e _ _ h1 hok.2
     have hlen:(k+1) * P.cellsOf e<=cs.length:=by rw[hcl,hsz];exact ab6 _ hk
     have hxl:xs.length=k * P.cellsOf e:=by rw[x1.length,List.length_take];rw[ab4] at hlen;omega
     have hrl:r.length=P.cellsOf e:=by rw[g1.length];simp;rw[ab4] at hlen;omega
     refine⟨xs++r,?_,by rw[adE,x2,g2];rfl,fun i hi=>?_⟩
     ·have:=x1.append g1
      rwa [<-List.take_add,<-Nat.succ_mul] at this
     ·rcases abL i k with h2|h2
      ·obtain⟨y,hy,hh⟩:=x3 i h2
       refine⟨y,hy,?_⟩
       have h3:(i+1) * P.cellsOf e<=k * P.cellsOf e:=ab6 _ h2
       rw[ab4] at h3
       rw[List.drop_append_of_le_length (by omega),List.take_append_of_le_length (by simp;omega)]
       exact hh
      ·have:i=k:=by omega
       subst this
       refine⟨_,abo (by omega),?_⟩
       rw[<-hxl,agK,<-hrl,abU]
       exact g3
   obtain⟨xs,x1,x2,x3⟩:=rows m (abq _)
   rw[<-hsz,<-hcl,abU] at x1
   refine⟨xs,x1,x2,.array hu xs (ys.map (·.1)) (by rw[x1.length,hcl]) (by simp[hyl]) fun i d hd=>?_⟩
   have hi:i<m:=by
    have:=(abm.1 hd).1
    simpa [hyl] using this
   obtain⟨y,hy,hh⟩:=x3 i hi
   rw[abF,hy] at hd
   simp only[abJ,abA] at hd
   subst hd
   exact hh
  ·cases hok
theorem Nm{S:List TypeId}(hS:Fa P S=true){t:TypeId}{v:Value}{d:DataW H}{p:List MemPlace}{base:Nat}(h:DataW.Trod enc P W 0 (fun _=>true) true t v d p)(hv:Value.okWide P W .any base t v)(hin:S.contains t=true):
 ∃x,aI (aB.init W) x v/\jy P t x d:=by
 obtain⟨fuel,hf⟩:=h
 obtain⟨xs,h1,h2,h3⟩:=HP hS fuel t _ _ hf hin
 have single:∀c,v.cells.toList=[c]->v=c->(∀cs,P.underlying t≠some (.struct cs))->(∀m e,P.underlying t≠some (.array m e))->∃x,aI (aB.init W) x v/\jy P t x d:=by
  intro c hc hvc hns hna
  rw[hc] at h1
  cases h1 with
  |cons x _ _ _ hx hs=>
   cases hs
   refine⟨x,hvc ▸ hx,?_⟩
   unfold jy
   split
   ·rename_i hu;exact absurd hu (hns _)
   ·rename_i hu;exact absurd hu (hna _ _)
   ·exact h3
 have hok:Cc P S t=true:=abE.1 hS t (by simpa using hin)
 unfold Cc at hok
 unfold Value.okWide at hv
 split at hok
 ·rename_i hu
  rw[hu] at hv
  simp only[Cell.okWide,Cell.ok,hu] at hv
  cases v<;>simp at hv
  exact single _ rfl rfl (by rw[hu];simp) (by rw[hu];simp)
 ·rename_i k hu
  rw[hu] at hv
  simp only[Cell.okWide,Cell.ok,hu] at hv
  cases v<;>simp at hv
  exact single _ rfl rfl (by rw[hu];simp) (by rw[hu];simp)
 ·rename_i hu
  rw[hu] at hv
  simp only[Cell.okWide,Cell.ok,hu] at hv
  cases v<;>simp at hv
  exact single _ rfl rfl (by rw[hu];simp) (by rw[hu];simp)
 ·rename_i e hu
  rw[hu] at hv
  simp only[Cell.okWide,Cell.ok,hu] at hv
  cases v<;>simp at hv
  exact single _ rfl rfl (by rw[hu];simp) (by rw[hu];simp)
 ·rename_i fs hu
  rw[hu] at hv
  obtain⟨cs,rfl,-,-⟩:=hv
  exact⟨.agg xs,.agg _ _ h1,by unfold jy;rw[hu];exact⟨xs,rfl,h3⟩⟩
 ·rename_i m e hu
  rw[hu] at hv
  obtain⟨cs,rfl,-,-⟩:=hv
  exact⟨.agg xs,.agg _ _ h1,by unfold jy;rw[hu];exact⟨xs,rfl,h3⟩⟩
 ·cases hok
theorem Lo{S:List TypeId}(hS:Fa P S=true){base:Nat}:∀{ts:List TypeId} {vs:List Value} {ds:List (DataW H)} {p:List MemPlace},DataW.TrodAll enc P W 0 (fun _=>true) true ts vs ds p->
 (∀(j:Nat) t v,ts[j]?=some t->vs[j]?=some v->Value.okWide P W .any base t v)->(∀t∈ts,S.contains t=true)->∃xs,ao (aB.init W) xs vs/\jF P ts xs ds:=by
 intro ts
 induction ts with
 |nil=>
  intro vs ds p h _ _
  obtain⟨rfl,rfl,rfl⟩:=trodAll_nil h
  exact⟨[],.nil,trivial⟩
 |cons t ts ih=>
  intro vs ds p h hv hok
  obtain⟨v,vs',d,ds',p1,q1,rfl,rfl,rfl,h1,h2⟩:=trodAll_cons h
  obtain⟨x,g1,g2⟩:=Nm hS h1 (hv 0 t v rfl rfl) (hok t abM)
  obtain⟨xs,g3,g4⟩:=ih h2 (fun j t v ht hv'=>hv (j+1) t v (by simpa using ht) (by simpa using hv')) (fun t ht=>hok t (abH _ ht))
  exact⟨x::xs,.cons _ _ _ _ g1 g3,g2,g4⟩
structure yi(P:Program)(S:List TypeId)(f:FuncId)(fn:Func)(tb:TypeId):Prop where
 func:P.funcs[f]?=some fn
 laid:laidOutB P=true
 set:Fa P S=true
 tys:∀t∈fn.params.toList,S.contains t=true/\P.readableRec t=true/\t<P.types.size
 res:fn.resultTypes=#[tb]
 bool:P.underlying tb=some .bool
variable {G:Nat->Option (List AV)} {prims:FuncId->Option (List AV->ae->Option (AV × ae))}
theorem wP{S:List TypeId}(hp:Prog P){f:FuncId}{fn:Func}{tb:TypeId}(F:yi P S f fn tb){s:ChangeSpec}{apart fresh handsOn again:Bool}{base:Nat}{args:Array Value}{ds gs:List (DataW H)}{before:List MemPlace}
 (hvars:s.vars=[]) (hspec:∀ds:List (DataW H),ds.length=fn.params.size->(s.fn H ds).results=[.lit (.bool true)]/\(s.fn H ds).args=ds/\(s.fn H ds).vars=[])
 (hval:∀(j:Nat) t v,fn.params[j]?=some t->args[j]?=some v->Value.okWide P W .any base t v)
 (hW:DataW.Whole enc P fn.params.toList s.vars apart W args.toList ds gs before)
 (hG:∀g cs,G g=some cs->∃cells,ao (aB.init W) cs cells/\∀(j:Nat) (c:Value),cells[j]?=some c->W.cell? ⟨g,j,none⟩=some c)
 (hprim:∀g p,prims g=some p->jb P G W g p)
 (hlaw:∀xs:List AV,jF P fn.params.toList xs ds->∃h',(whole P G prims).call f xs ae.init=some (.ret (.v (.bool true)),h')):
 Calls P f args W fun e W'=>∃v,e=.returned v/\s.post enc P fn apart fresh handsOn again W args v W':=by
 have hW':=hW
 obtain⟨p,q,hA,hV,hbef,hfz,hnd⟩:=hW
 have hV0:DataW.TrodVars enc P W (fun _=>true) [] gs q:=hvars ▸ hV
 obtain⟨rfl,rfl⟩:=trodVars_none hV0
 rw[ab2] at hbef
 subst hbef
 obtain⟨xs,hxs,hall⟩:=Lo F.set hA (fun j t v ht hv=>hval j t v (by simpa using ht) (by simpa using hv)) (fun t ht=>(F.tys t ht).1)
 obtain⟨h',hcall⟩:=hlaw xs hall
 have hsim:jv P G W (aB.init W) ae.init W:=IM W hG
 obtain⟨-,hc⟩:=(su hp hprim).call f xs ae.init _ _ hcall
 intro cs
 obtain⟨K',w',fr,le,s',hst,hfr,v,hx,hl⟩:=hc (aB.init W) W args hxs hsim cs
 have hv:=hx.bm.1
 subst hv
 have hb:Below W.heap.size W w':=by
  have:=s'.old
  rw[le.base] at this
  exact this
 have hlen:ds.length=fn.params.size:=by
  have:∀{ts:List TypeId} {xs:List AV} {ds:List (DataW H)},jF P ts xs ds->ds.length=ts.length:=by
   intro ts
   induction ts with
   |nil=>intro xs ds h;cases xs<;>cases ds<;>simp[jF] at h ⊢
   |cons t ts ih=>intro xs ds h;cases xs<;>cases ds<;>simp[jF] at h ⊢;exact ih h.2
  simpa using this hall
 obtain⟨r1,r2,r3⟩:=hspec ds hlen
 refine⟨.returned (.bool true),w',fr,⟨_,rfl,?_⟩,hst,hfr,hl⟩
 refine CV (pa:=before) (pv:=[]) hW' (fun b sp hd=>?_) (fun sp hsp=>?_) (fun sp _=>?_) (by simp) hb (ok_one F.res rfl (okWide_bool_mk F.bool _))
 ·rw[F.res,ab2,r1]
  exact trodAll_cons_mk (shut_bool F.bool _) trodAll_mk0
 ·rw[ab2,r2]
  exact FQ F.laid hA (fun t ht=>(F.tys t ht).2) (fun x hx=>hb.same (hW'.lt x hx)) hsp
 ·rw[hvars,ab2,r3]
  exact rfl
end
end Go.AE
end
