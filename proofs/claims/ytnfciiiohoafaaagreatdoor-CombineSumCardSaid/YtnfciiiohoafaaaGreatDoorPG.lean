/-
  The engine, part 51: a function that gives a number and takes lists whose cells may lie in boxes: for the call these boxes are lists.
-/
import Derived.Test.YtnfciiiohoafaaaGreatDoorPF
import Derived.Test.YtnfciiiohoafaaaGreatDoorPE
open Nat renaming not_lt_zero→acH,zero_le→abG,le_refl→abq,reduceEqDiff→abn,add_mul→ab4,lt_or_ge→abL,succ_ne_zero→afa,mul_one→acM
open Int renaming toNat_natCast→abB,sub_zero→aeE,natCast_zero→acT
open List renaming drop_of_length_le→acm,getElem?_eq_getElem→abo,mem_of_getElem?→abz,any_append→aeP,any_eq_true→adJ,cons_append→ab3,take_length→abU,range→aby,range_succ→acx,foldl_append→acs,any_cons→agO,all_cons→aen,length_map→abu,getD_eq_getElem?_getD→abw,all_eq_true→abE,mem_range→abQ,length_nil→ab7,all_append→adE,all_eq_false→afI,flatten_append→acr,mem_map→aco,length_take→abI,flatten_cons→acp,length_cons→ab0,mem_cons_self→abM,getElem?_eq_some_iff→abm,getElem?_take→acj,getElem?_drop→acw,mem_of_mem_take→acq,nil_append→ab9,getElem?_append_left→ab5,length_append→abx,getElem?_concat_length→adg,getElem?_map→abF,take_of_length_le→abD,replicate→abt,take_append_drop→acN,mem_flatten→aeG,getElem?_of_mem→acC,map_cons→abK,ext_getElem?→acG,getElem?_eq_none→acf,getElem_mem→ab1
open And renaming intro→abp
open Bool renaming and_eq_true→abr,true_and→ac2,false_and→ade
open Option renaming map_some→abJ
set_option maxHeartbeats 64000000
set_option maxRecDepth 100000
set_option linter.unusedSimpArgs false
set_option linter.unusedVariables false
set_option linter.constructorNameAsVariable false
section
namespace Go.Proofs.YtnfciiiohoafaaaGreatDoor
open Go.AE Go.NT
def IS(H:ae)(x:AV)(l:List Int):Prop:=IL x l∨∃b,x=.arr b 0 l.length l.length/\H.boxes[b]?=some (l.map im)
theorem IS.mono{H H':ae}{x:AV}{l:List Int}(s:IS H x l)(m:∀(c:Nat) cs,H.boxes[c]?=some cs->H'.boxes[c]?=some cs):IS H' x l:=by
 rcases s with q|⟨b,q1,q2⟩
 ·exact .inl q
 ·exact .inr ⟨b,q1,m _ _ q2⟩
theorem IS.len{H:ae}{x:AV}{l:List Int}(s:IS H x l):cH Tryz.prog 23 x=some (.v (.int .i64 (l.length:Nat))):=by
 rcases s with⟨k,z,rfl,-⟩|⟨b,rfl,-⟩
 ·rw[uV Tryz.underlying23,aU]
 ·rw[yS Tryz.underlying23]
theorem IS.at{H:ae}{x:AV}{l:List Int}(s:IS H x l){i:Nat}(hi:i<l.length):∃a,ay Tryz.prog 23 x (.v (.int .i64 (i:Nat)))=some a/\∀H':ae,IS H' x l->ai Tryz.prog Gt H' 3 a=some (.v (.int .i64 (at0 l i))):=by
 rcases s with⟨k,z,rfl,hz⟩|⟨b,rfl,hb⟩
 ·have:z=1:=hz (by intro q;rw[q] at hi;exact acH _ hi)
  subst this
  have q:=al (t:=23) (k:=k) (kk:=.i64) (sz:=1) (es:=ints l) (a:=((i:Nat):Int)) Tryz.underlying23 sz3 (by omega) (by rw[aU];omega)
  rw[abB] at q
  exact⟨_,q,fun H' _=>ldi hi⟩
 ·refine⟨.ptr (.box b) i,vE (b:=b) (len:=l.length) (cap:=l.length) (n:=i) (k:=.i64) hi,fun H' s'=>?_⟩
  rcases s' with⟨k,z,e,-⟩|⟨b',e,hb'⟩
  ·cases e
  ·injection e with e1
   subst e1
   exact ldc hb' (gv hi)
def L4:List FuncId:=[28,29,30,46,65,66,69,76,78,82,94,97,118,119,120,121,123,132,138,140,146,172,194,195,196,201]
noncomputable def sP:FuncId->Option (List AV->ae->Option (AV × ae)):=fx W3 L4
noncomputable abbrev W4:=whole Tryz.prog Gt sP
theorem Bz:jo sP L4:=nE
section
variable (a b n x:Int)
theorem RD:∀h,W4.call 28 [im a,im b] h=some (.ret (im (cN a b)),h):=aF (L:=L4) rfl rfl rfl (S8 a b _) rfl rfl
theorem RE:∀h,W4.call 29 [im a,im b] h=some (.ret (im (cq a b)),h):=aF (L:=L4) rfl rfl rfl (S9 a b _) rfl rfl
theorem Kp:∀h,W4.call 46 [im x] h=some (.ret (.v (.bool (aX x))),h):=aF (L:=L4) rfl rfl rfl (Pn x _) rfl rfl
theorem RF:∀h,W4.call 69 [im a,im b] h=some (.ret (.tuple [im (pO a b),im (mP a b)]),h):=aF (L:=L4) rfl rfl rfl (RB a b _) rfl rfl
theorem Kq:∀h,W4.call 30 [im a,im n] h=some (.ret (.tuple [im (iL a n),im (lG a)]),h):=aF (L:=L4) rfl rfl rfl (RC a n _) rfl rfl
theorem Wr:∀h,W4.call 94 [im x] h=some (.ret (.v (.bool (aX x))),h):=aF (L:=L4) rfl rfl rfl (Wq x _) rfl rfl
theorem Xg:∀h,W4.call 140 [im a,im b] h=some (.ret (.tuple [im (pO a b),im (mP a b)]),h):=aF (L:=L4) rfl rfl rfl (Xe a b _) rfl rfl
theorem Xh:∀h,W4.call 132 [im a,im n] h=some (.ret (.tuple [im (iL a n),im (lG a)]),h):=aF (L:=L4) rfl rfl rfl (Xf a n _) rfl rfl
theorem Ya:∀h,W4.call 120 [im n] h=some (.ret (.agg (cE 1 n [] .nil 0 [])),h):=aF (L:=L4) rfl rfl rfl (X9 n _) rfl rfl
end
theorem Kr(k0:Tok)(s0:Nat)(xs:List AV)(y z:AV)(rows:List (List Int))(owners who:List Int)(hx:RL (.list k0 s0 (xs.map fun a=>[a])) rows)(hy:IL y owners)(hz:IL z who)(hwl:who.length<=1099511627776):
 (∃e,bJ rows owners who=([],false,e)/\∀h,W4.call 76 [.agg [.list k0 s0 (xs.map fun a=>[a]),y],z] h=some (.ret (.tuple [.list .nil 0 [],.v (.bool false),.v (.int .i64 e)]),h))∨
 ∃l,bJ rows owners who=(l,true,0)/\l.length=rows.length/\∀h,W4.call 76 [.agg [.list k0 s0 (xs.map fun a=>[a]),y],z] h=some (.ret (.tuple [.list .held 1 (ints l),.v (.bool true),.v (.int .i64 0)]),h):=by
 obtain⟨h1,h2⟩:=hx.hold
 obtain⟨h3,h4⟩:=hy.hold
 obtain⟨h5,h6⟩:=hz.hold
 have ea:bM [.agg [.list k0 s0 (xs.map fun a=>[a]),y],z]=[.agg [.list (di k0) s0 ((xs.map au).map fun a=>[a]),au y],au z]:=by
  rw[bM,au,bM,bM,bM,au,hD];rfl
 have ef:bA 0 0 0 [.agg [.list (di k0) s0 ((xs.map au).map fun a=>[a]),au y],au z]=true:=by
  have hf:=gx _ h2
  rw[bA,aV,bA,bA,bA,bA,aV,bV,hf,h4,h6];rfl
 obtain⟨r,h',hc,-,⟨e,e1,rfl⟩|⟨l,b,e1,e2,rfl,e3⟩⟩:=DO ⟨[],[],0,[]⟩ (di k0) s0 (xs.map au) (au y) (au z) rows owners who h1 h3 h5 hwl
 ·exact .inl ⟨e,e1,aF (L:=L4) rfl ea ef hc rfl rfl⟩
 ·refine .inr ⟨l,e1,e2,aF (L:=L4) rfl ea ef hc ?_ (by simp[aV,bA,fJ,oF])⟩
  rw[jK,vp,vJ e3 e2];rfl
theorem Uw:Tryz.f93.results.toList=[.tmp 2]:=kZq
theorem V0(h:ae)(x:AV)(l:List Int)(hx:IL x l)(hl:l.length<=9223372036854775807):∃r h',W4.call 93 [x] h=some (r,h')/\h'=h/\r=.ret (.v (.bool (cS (-1) l))):=by
 obtain⟨k,s,rfl,hs⟩:=hx
 have ks:=ah.mk hs
 clear hs
 have u23:=Tryz.underlying23
 have z3:=sz3
 have hil:=aU l
 refine aL rfl Tryz.func93 rfl ?_
 refine gx1 @Uw ?_
 refine aD (fun m e H=>∃(i:Nat) (last:Int),i<=l.length/\m=l.length - i/\ah (cS last (l.drop i)=cS (-1) l)/\ -1<=last/\ah (i=0->last= -1)/\ah (0<i->at0 l (i - 1)=last)/\e.get 0=.list k s (ints l)/\e.get 3=.v (.int .i64 (i:Nat))/\e.defers=[]/\H=h) ?_ l.length _ _ ?_
 rotate_left 1
 ·refine⟨0,-1,abG _,rfl,⟨rfl⟩,Int.le_refl _,⟨fun _=>rfl⟩,⟨fun q=>absurd q (Nat.lt_irrefl _)⟩,?_,?_,?_,rfl⟩<;>exact gR
 rintro m e H ⟨i,last,hi,rfl,kP,hla,k0,k1,g0,g3,hd,rfl⟩
 by_cases hlt:i<l.length
 rotate_left 1
 ·have:i=l.length:=by omega
  subst this
  have hf:cS (-1) l=true:=by rw[<-kP.out,acm (abq _)];rfl
  have kf:=ah.mk hf
  clear hf
  repeat' (first|simp(maxSteps:=999999)(disch:=first|exact dZ|fail)only[gW,reduceIte,abn,gBQ,Uw, *]|refine dX ?_ ?_<;>(intro _;try omega))
  exact⟨_,_,rfl,rfl,by rw[kf.out]⟩
 have hs1:s=1:=ks.out (by intro q;rw[q] at hlt;simp at hlt)
 subst hs1
 have ld:=ldi (H:=H) (s:=1) hlt
 have hltI:(i:Int)<(l.length:Int):=by omega
 have hdrop:l.drop i=at0 l i::l.drop (i+1):=by rw[bN hlt];exact List.drop_eq_getElem_cons hlt
 have hpf:=kP.out
 rw[hdrop,cS] at hpf
 have kpf:=ah.mk hpf
 clear hpf hdrop
 by_cases c1:at0 l i<0
 ·have hd1:decide (at0 l i<0)=true:=by simp[c1]
  have hf:cS (-1) l=false:=by rw[<-kpf.out];simp;omega
  have kf:=ah.mk hf
  clear hf c1
  refine gx2 @Uw @al ?_
  refine bf Bz kZq ?_
  refine gx2 @Uw @al ?_
  exact⟨_,_,rfl,rfl,by rw[kf.out]⟩
 have hd1:decide (at0 l i<0)=false:=by simp[c1]
 by_cases c2:64<=at0 l i
 ·have hd2:decide (64<=at0 l i)=true:=by simp[c2]
  have hf:cS (-1) l=false:=by rw[<-kpf.out];simp;omega
  have kf:=ah.mk hf
  clear hf c1 c2
  refine gx2 @Uw @al ?_
  refine bf Bz kZq ?_
  refine gx2 @Uw @al ?_
  exact⟨_,_,rfl,rfl,by rw[kf.out]⟩
 have hd2:decide (64<=at0 l i)=false:=by simp;omega
 by_cases hi0:i=0
 ·subst hi0
  have hl0:=k0.out rfl
  have kP2:ah (cS (at0 l 0) (l.drop (0+1))=cS (-1) l):=⟨by
   rw[<-kpf.out,decide_eq_true (show last<at0 l 0 by omega),decide_eq_true (show at0 l 0<=63 by omega)];rfl⟩
  have hn0: -1<=at0 l 0:=by omega
  have kk1:ah (0<0+1->at0 l (0+1 - 1)=at0 l 0):=⟨fun _=>rfl⟩
  clear c1 c2 hl0 kpf
  refine gx2 @Uw @al ?_
  refine bf Bz kZq ?_
  repeat' (first|simp(maxSteps:=999999)(disch:=first|exact dZ|fail)only[gW,reduceIte,abn,gBQ,Uw,al, *]|refine dX ?_ ?_<;>(intro _;try omega))
  exact⟨l.length - 1,by omega,0+1,at0 l 0,by omega,rfl,kP2,hn0,⟨fun q=>absurd q (by omega)⟩,kk1,by simp⟩
 ·have hil1:=k1.out (by omega)
  have ld1:=ldi (H:=H) (l:=l) (i:=i - 1) (s:=1) (by omega)
  rw[hil1] at ld1
  have hposI:decide ((0:Int)<(i:Int))=true:=decide_eq_true (by omega)
  have hsub:(i:Int) - 1=((i - 1:Nat):Int):=by omega
  have hltI1:((i - 1:Nat):Int)<(l.length:Int):=by omega
  by_cases c3:at0 l i<=last
  ·have hd3:decide (at0 l i<=last)=true:=by simp[c3]
   have hf:cS (-1) l=false:=by rw[<-kpf.out];simp;omega
   have kf:=ah.mk hf
   clear hf c1 c2 c3 hil1
   refine gx2 @Uw @al ?_
   refine bf Bz kZq ?_
   refine gx2 @Uw @al ?_
   exact⟨_,_,rfl,rfl,by rw[kf.out]⟩
  ·have hd3:decide (at0 l i<=last)=false:=by simp;omega
   have kP2:ah (cS (at0 l i) (l.drop (i+1))=cS (-1) l):=⟨by
    rw[<-kpf.out,decide_eq_true (show last<at0 l i by omega),decide_eq_true (show at0 l i<=63 by omega)];rfl⟩
   have hn0: -1<=at0 l i:=by omega
   have kk1:ah (0<i+1->at0 l (i+1 - 1)=at0 l i):=⟨fun _=>rfl⟩
   clear c1 c2 c3 hil1 kpf
   refine gx2 @Uw @al ?_
   refine bf Bz kZq ?_
   refine gx2 @Uw @al ?_
   exact⟨l.length - (i+1),by omega,i+1,at0 l i,by omega,rfl,kP2,hn0,⟨fun q=>absurd q (by omega)⟩,kk1,by simp⟩
section
variable {pr:FuncId->Option (List AV->ae->Option (AV × ae))}
theorem Ks:Tryz.f159.results.toList=[.tmp 4]:=kZq
theorem Pq(hpr:pr 167=none)(g:FuncId)(cap:List AV)(p:Int->Bool)(h:ae)(x:AV)(l:List Int)(hx:IL x l)(hl:l.length<=1000000)(hp:∀n∈l,(whole Tryz.prog Gt pr).call g (im n::cap) h=some (.ret (.v (.bool (p n))),h)):
 ∃r h',(whole Tryz.prog Gt pr).call 167 [x,.func (.func g) [] cap] h=some (r,h')/\h'=h/\∃i:Int,r=.ret (im i)/\decide (0<=i)=l.any p:=by
 obtain⟨k,s,rfl,hs⟩:=hx
 have kp:=ah.mk hp
 have ks:=ah.mk hs
 clear hp hs
 have u23:=Tryz.underlying23
 have z3:=sz3
 have hil:=aU l
 refine aL hpr Tryz.func167 rfl ?_
 refine gx1 @tI ?_
 refine aD (fun m e H=>∃i:Nat,i<=l.length/\m=l.length - i/\(l.take i).any p=false/\e.get 0=.list k s (ints l)/\e.get 1=.func (.func g) [] cap/\e.get 7=.v (.int .i64 (l.length:Nat))/\e.get 8=.v (.int .i64 (i:Nat))/\e.defers=[]/\H=h) ?_ l.length _ _ ?_
 rotate_left 1
 ·refine⟨0,abG _,rfl,by simp,?_,?_,?_,?_,?_,rfl⟩<;>exact gR
 rintro m e H ⟨i,hi,rfl,ha,g0,g1,g7,g8,hd,rfl⟩
 have ka:=ah.mk ha
 clear ha
 by_cases hlt:i<l.length
 ·have hs1:s=1:=ks.out (by intro q;rw[q] at hlt;simp at hlt)
  subst hs1
  have ld:=ldi (H:=H) (s:=1) hlt
  have hv:l[i]?=some (at0 l i):=by rw[abo hlt,bN hlt]
  have hc:=kp.out (at0 l i) (abz hv)
  have hltI:(i:Int)<(l.length:Int):=by omega
  have htake:(l.take (i+1)).any p=p (at0 l i):=by rw[a9 hv,aeP,ka.out];simp
  have kt:=ah.mk htake
  have kh:=ah.mk hv
  clear hv htake
  unfold im at hc
  cases hpv:p (at0 l i) with
  |true=>
   rw[hpv] at hc
   have hany:l.any p=true:=adJ.2 ⟨_,abz kh.out,hpv⟩
   have kan:=ah.mk hany
   clear hany hpv
   refine gx3 @tI @al @ab3.{0} ?_
   exact⟨_,_,rfl,rfl,(i:Int),rfl,by rw[kan.out];simp⟩
  |false=>
   rw[hpv] at hc
   have kt2:(l.take (i+1)).any p=false:=kt.out.trans hpv
   clear hpv
   refine gx3 @tI @al @ab3.{0} ?_
   exact⟨l.length - (i+1),by omega,i+1,by omega,rfl,kt2,by simp⟩
 ·have:i=l.length:=by omega
  subst this
  have:=ka.out
  rw[abU] at this
  have kan:=ah.mk this
  clear this
  repeat' (first|simp(maxSteps:=999999)(disch:=first|exact dZ|fail)only[gW,reduceIte,abn,gBQ,tI, *]|refine dX ?_ ?_<;>(intro _;try omega))
  exact⟨_,_,rfl,rfl,-1,rfl,by rw[kan.out];rfl⟩
theorem pD(h167:pr 167=none)(h126:pr 126=none)(g:FuncId)(cap:List AV)(p:Int->Bool)(h:ae)(x:AV)(l:List Int)(hx:IL x l)(hl:l.length<=1000000)(hp:∀n∈l,(whole Tryz.prog Gt pr).call g (im n::cap) h=some (.ret (.v (.bool (p n))),h)):
 (whole Tryz.prog Gt pr).call 126 [x,.func (.func g) [] cap] h=some (.ret (.v (.bool (l.any p))),h):=by
 obtain⟨r,h',c,rfl,i,rfl,hi⟩:=Pq h167 g cap p h x l hx hl hp
 have hdec:decide (0<=i)=l.any p:=hi
 unfold im at c
 refine ar h126 Tryz.func126 rfl ?_
 clear hi hp
 exact gz1 @NI
theorem Ta(hpr:pr 159=none)(hadd:∀a b h,(whole Tryz.prog Gt pr).call 28 [im a,im b] h=some (.ret (im (cN a b)),h))(g:FuncId)(cap:List AV)(f:Nat->Int)(h:ae)(x:AV)(l:List Int)(hx:IL x l)(hl:l.length<=1000000)
 (hp:∀i,i<l.length->(whole Tryz.prog Gt pr).call g (im (i:Nat)::im (at0 l i)::cap) h=some (.ret (im (f i)),h)):
 ∃h',(whole Tryz.prog Gt pr).call 159 [x,.func (.func g) [] cap] h=some (.ret (im ((aby l.length).foldl (fun x j=>cN x (f j)) 0)),h')/\h'=h:=by
 obtain⟨k,s,rfl,hs⟩:=hx
 have kp:=ah.mk (abp hp hs)
 clear hp hs
 have u23:=Tryz.underlying23
 have z3:=sz3
 have hil:=aU l
 unfold im
 refine dL hpr Tryz.func159 rfl ?_
 refine gx1 @Ks ?_
 refine aD (fun m e H=>∃i:Nat,i<=l.length/\m=l.length - i/\e.get 1=.func (.func g) [] cap/\e.get 4=.v (.int .i64 ((aby i).foldl (fun x j=>cN x (f j)) 0))/\e.get 7=.list k s (ints l)/\e.get 8=.v (.int .i64 (l.length:Nat))/\e.get 9=.v (.int .i64 (i:Nat))/\e.defers=[]/\H=h) ?_ l.length _ _ ?_
 rotate_left 1
 ·refine⟨0,abG _,rfl,?_,?_,?_,?_,?_,?_,rfl⟩<;>exact gR
 rintro m e H ⟨i,hi,rfl,g1,g4,g7,g8,g9,hd,rfl⟩
 by_cases hlt:i<l.length
 ·have hs1:s=1:=kp.out.2 (by intro q;rw[q] at hlt;simp at hlt)
  subst hs1
  have ld:=ldi (H:=H) (s:=1) hlt
  have hc:=kp.out.1 i hlt
  have ha:=fun v=>hadd v (f i) H
  have hltI:(i:Int)<(l.length:Int):=by omega
  have hst:cN ((aby i).foldl (fun x j=>cN x (f j)) 0) (f i)=(aby (i+1)).foldl (fun x j=>cN x (f j)) 0:=by rw[acx,acs];rfl
  have kst:=ah.mk hst
  clear hst
  generalize (aby i).foldl (fun x j=>cN x (f j)) 0=acc at *
  unfold im at hc ha
  refine gx3 @Ks @al @ab3.{0} ?_
  exact⟨l.length - (i+1),by omega,i+1,by omega,rfl,by trivial,by rw[kst.out],by simp⟩
 ·have:i=l.length:=by omega
  subst this
  repeat' (first|simp(maxSteps:=999999)(disch:=first|exact dZ|fail)only[gW,reduceIte,abn,gBQ,Ks, *]|refine dX ?_ ?_<;>(intro _;try omega))
  exact⟨_,rfl,rfl⟩
end
theorem NP:Tryz.f157.results.toList=[.tmp 2]:=kZq
theorem RG:Tryz.f107.results.toList=[.tmp 2]:=kZq
theorem NQ:Tryz.f108.results.toList=[.tmp 2]:=kZq
theorem RH:Tryz.f110.results.toList=[.tmp 4]:=kZq
theorem RI:Tryz.f160.results.toList=[.tmp 5]:=kZq
theorem RJ:Tryz.f168.results.toList=[.tmp 2]:=kZq
theorem EN:Tryz.f129.results.toList=[.tmp 4]:=kZq
theorem Kt:Tryz.f130.results.toList=[.tmp 4]:=kZq
theorem Tb:Tryz.f57.results.toList=[.tmp 4]:=kZq
theorem Tc:Tryz.f77.results.toList=[.tmp 4]:=kZq
theorem ML(x n:Int)(h:ae):W4.call 57 [im x,im n] h=some (.ret (im (iL x n)),h):=by
 have c:=Kq x n
 unfold im at *
 refine ar rfl Tryz.func57 rfl ?_
 exact gz1 @Tb
theorem MM(x n:Int)(h:ae):W4.call 77 [im x,im n] h=some (.ret (im (iL x n)),h):=by
 have c:=Kq x n
 unfold im at *
 refine ar rfl Tryz.func77 rfl ?_
 exact gz1 @Tc
theorem MN(n:Int):pR n= !inQ n:=by
 unfold pR inQ Qi
 by_cases h0:n<0
 ·rw[decide_eq_true h0,decide_eq_false (show ¬0<=n by omega)];rfl
 ·by_cases h1:1073741789<=n
  ·rw[decide_eq_false h0,decide_eq_true h1,decide_eq_true (show 0<=n by omega),decide_eq_false (show ¬n<1073741789 by omega)];rfl
  ·rw[decide_eq_false h0,decide_eq_false h1,decide_eq_true (show 0<=n by omega),decide_eq_true (show n<1073741789 by omega)];rfl
theorem Ps(n:Int)(h:ae):W4.call 157 [im n] h=some (.ret (.v (.bool (pR n))),h):=by
 unfold im pR
 by_cases h0:n<0
 ·refine ar rfl Tryz.func157 rfl ?_
  have:decide (n<0)=true:=by simp[h0]
  exact gz2 @NP @Bool.true_or
 ·refine ar rfl Tryz.func157 rfl ?_
  have:decide (n<0)=false:=by simp[h0]
  exact gz2 @NP @Bool.false_or
theorem EO(l:List Int):(!l.any pR)=l.all inQ:=by
 induction l with
 |nil=>rfl
 |cons a l ih=>rw[agO,aen,<-ih,MN];simp
theorem vK(x:AV)(l:List Int)(hx:IL x l)(hl:l.length<=1000000)(h:ae):W4.call 107 [x] h=some (.ret (.v (.bool (l.all inQ))),h):=by
 have c:=pD (pr:=sP) rfl rfl 157 [] pR h x l hx hl (fun n _=>Ps n h)
 have hv:(!l.any pR)=l.all inQ:=EO l
 refine ar rfl Tryz.func107 rfl ?_
 clear hx
 exact gz1 @RG
theorem vL(h:ae)(x y:AV)(rows:List (List Int))(owners:List Int)(hx:RL x rows)(hy:IL y owners):∃h',W4.call 108 [.agg [x,y]] h=some (.ret (.v (.int .i64 (aK rows:Nat))),h')/\h'=h.push [x,y]:=by
 obtain⟨k,s,xs,rfl,hs,hxl,hxr⟩:=hx
 have bx:(AV.agg [.list k s (xs.map fun a=>[a]),y]).aC=some [.list k s (xs.map fun a=>[a]),y]:=by
  obtain⟨ky,sy,rfl,-⟩:=hy;rfl
 have l0:=tY (ak h [.list k s (xs.map fun a=>[a]),y])
 have u23:=Tryz.underlying23
 have u22:=Tryz.underlying22
 have z23:=jC
 have hil:(xs.map fun a=>[a]).length=rows.length:=by rw[abu];exact hxl
 refine dL rfl Tryz.func108 rfl ?_
 by_cases h0:rows.length=0
 ·have hq:(rows.length:Int)=0:=by omega
  have hc:aK rows=1:=by unfold aK;rw[if_pos h0]
  rw[hc]
  clear h0 hxr hs hxl hc
  refine gx3 @NQ @aw @bH ?_
  exact⟨_,rfl,rfl⟩
 ·have hq:¬((rows.length:Int)=0):=by omega
  obtain⟨a0,hav0⟩:∃a,xs[0]?=some a:=⟨_,abo (by omega)⟩
  obtain⟨r0,hv0⟩:∃r,rows[0]?=some r:=⟨_,abo (by omega)⟩
  have hs1:s=1:=hs (by intro q;rw[q] at h0;simp at h0)
  subst hs1
  have ld0:=ldr (H:=h.push [.list k 1 (xs.map fun a=>[a]),y]) (s:=1) hav0
  obtain⟨ka0,sa0,rfl,hsa0⟩:=hxr 0 a0 r0 hav0 hv0
  have hc:aK rows=r0.length:=by
   unfold aK
   rw[if_neg h0,abw,hv0];rfl
  rw[hc]
  have hrl:=aU r0
  have h0I:(0:Int)<(rows.length:Int):=by omega
  have z0:(0:Int).toNat=0:=rfl
  clear h0 hxr hs hxl hc hav0 hv0 hsa0
  refine gx4 @NQ @aw @bH @al ?_
  exact⟨_,rfl,rfl⟩
theorem Ku(h:ae)(b i:Nat)(n:Int)(y:AV)(l:List Int)(hb:h.boxes[b]?=some [y])(hy:IL y l)(hi:i<l.length):W4.call 160 [im (i:Nat),im n,.ptr (.box b) 0] h=some (.ret (im (cq n (at0 l i))),h):=by
 obtain⟨k,s,rfl,hs⟩:=hy
 have hs1:s=1:=hs (by intro q;rw[q] at hi;simp at hi)
 subst hs1
 have l1:=vD hb
 have ld:=ldi (H:=h) (s:=1) hi
 have u23:=Tryz.underlying23
 have z3:=sz3
 have hil:=aU l
 have hiI:(i:Int)<(l.length:Int):=by omega
 have c:=RE n (at0 l i)
 unfold im at *
 clear hs hb
 refine ar rfl Tryz.func160 rfl ?_
 exact gz2 @RI @al
theorem Kv(h:ae)(x y:AV)(a b:List Int)(hx:IL x a)(hy:IL y b)(hl:a.length<=1000000)(hab:a.length<=b.length):∃h',W4.call 110 [x,y] h=some (.ret (im (oa a b)),h')/\h'=h.push [y]:=by
 obtain⟨_,c,rfl⟩:=Ta (pr:=sP) rfl (fun a b h=>RD a b h) 160 [.ptr (.box h.boxes.length) 0] (fun i=>cq (at0 a i) (at0 b i)) (h.push [y]) x a hx hl (fun i hi=>Ku (h.push [y]) h.boxes.length i (at0 a i) y b (ak _ _) hy (by omega))
 have cy:y.aC=some [y]:=by obtain⟨k,s,rfl,-⟩:=hy;rfl
 have e:(aby a.length).foldl (fun x j=>cN x (cq (at0 a j) (at0 b j))) 0=oa a b:=rfl
 rw[e] at c
 unfold im at *
 clear hx hy e
 refine dL rfl Tryz.func110 rfl ?_
 refine gx2 @RH @aw ?_
 exact⟨_,rfl,rfl⟩
theorem Kw(n:Int)(h:ae):W4.call 168 [im n] h=some (.ret (.v (.bool (!aX n))),h):=by
 have c:=Kp n
 unfold im at *
 refine ar rfl Tryz.func168 rfl ?_
 exact gz1 @RJ
theorem EP(p:Int->Bool)(l:List Int):(l.any fun n=> !p n)= !l.all p:=by
 induction l with
 |nil=>rfl
 |cons a l ih=>rw[agO,aen,ih];simp
theorem gL:Tryz.f115.results.toList=[.tmp 2]:=kZq
theorem Hj(h:ae)(x y:AV)(rows:List (List Int))(owners:List Int)(hx:RL x rows)(hy:IL y owners)(hrl:rows.length<=1000000):
 ∃r h',W4.call 115 [.agg [x,y]] h=some (r,h')/\h'=h.push [x,y]/\r=.ret (.v (.int .i64 (bC rows owners))):=by
 obtain⟨k,s,xs,rfl,hs,hxl,hxr⟩:=hx
 obtain⟨ky,sy,rfl,hsy⟩:=hy
 have kk:=ah.mk (abp hs (abp hxr hsy))
 clear hs hxr hsy
 have u23:=Tryz.underlying23
 have u22:=Tryz.underlying22
 have z23:=jC
 have z3:=sz3
 have hil:(xs.map fun a=>[a]).length=rows.length:=by rw[abu];exact hxl
 have hol:=aU owners
 have b0:(h.push [.list k s (xs.map fun a=>[a]),.list ky sy (ints owners)]).boxes[h.boxes.length]?=some [.list k s (xs.map fun a=>[a]),.list ky sy (ints owners)]:=ak _ _
 have l0:=tY b0
 have l1:=MG b0
 have bx:(AV.agg [.list k s (xs.map fun a=>[a]),.list ky sy (ints owners)]).aC=some [.list k s (xs.map fun a=>[a]),.list ky sy (ints owners)]:=rfl
 clear b0
 have k1:ah (64<rows.length->bC rows owners=2):=⟨fun q=>by unfold bC;rw[if_pos (by simp[q])]⟩
 have k2:ah (∀(i:Nat) r,rows[i]?=some r->64<r.length->bC rows owners=2):=⟨fun i r hr q=>by
  unfold bC
  rw[if_pos]
  rw[Bool.or_eq_true]
  exact .inr (adJ.2 ⟨r,abz hr,by simp[q]⟩)⟩
 have k3:ah (rows.length<=64->(rows.any fun r=>decide (64<r.length))=false->rows.length≠owners.length->bC rows owners=230):=⟨fun q1 q2 q3=>by
  unfold bC
  rw[if_neg (by rw[q2];simp;omega),if_pos q3]⟩
 have k4:ah (rows.length<=64->(rows.any fun r=>decide (64<r.length))=false->rows.length=owners.length->bC rows owners=if ((aby rows.length).all (mT rows owners))=true then (0:Int) else 230):=⟨fun q1 q2 q3=>by
  unfold bC
  rw[if_neg (by rw[q2];simp;omega),if_neg (by simpa using q3)];rfl⟩
 generalize bC rows owners=res at *
 obtain⟨H,hH⟩:∃H,h.push [.list k s (xs.map fun a=>[a]),.list ky sy (ints owners)]=H:=⟨_,rfl⟩
 rw[hH] at l0 l1
 rw[hH]
 refine aL rfl Tryz.func115 rfl ?_
 by_cases h1:64<rows.length
 ·have hq:((64:Int)<(rows.length:Int)):=by omega
  have kr:=ah.mk (k1.out h1)
  clear h1
  refine gx5 @gL @bH @cW @aw @hH ?_
  exact⟨_,_,rfl,rfl,by rw[kr.out]⟩
 have hq:¬((64:Int)<(rows.length:Int)):=by omega
 have h64:rows.length<=64:=by omega
 refine gx5 @gL @bH @cW @aw @hH ?_
 refine Run.gen fun e0 he0 hd0 hp0 hr0=>?_
 have f1:e0.get 1=.ptr (.box h.boxes.length) 0:=by rw[he0];exact gS
 have f3:e0.get 3=.v (.int .i64 (0:Nat)):=by rw[he0];exact gR
 have fd:e0.defers=[]:=by rw[hd0];exact gS
 clear he0 hd0 hp0 hr0 bx hq h1 hH
 refine aD (fun m e H2=>∃i:Nat,i<=rows.length/\m=rows.length - i/\ah (((rows.take i).any fun r=>decide (64<r.length))=false)/\e.get 1=.ptr (.box h.boxes.length) 0/\e.get 3=.v (.int .i64 (i:Nat))/\e.defers=[]/\H2=H) ?_ rows.length _ _ ?_
 rotate_left 1
 ·exact⟨0,abG _,rfl,⟨by simp⟩,f1,f3,fd,rfl⟩
 clear f1 f3 fd
 rintro m e H ⟨i,hi,rfl,kt,g1,g3,hd,rfl⟩
 by_cases hlt:i<rows.length
 ·have hs1:s=1:=kk.out.1 (by intro q;rw[q] at hlt;simp at hlt)
  subst hs1
  obtain⟨a,hav⟩:∃a,xs[i]?=some a:=⟨_,abo (by omega)⟩
  obtain⟨r,hv⟩:∃r,rows[i]?=some r:=⟨_,abo hlt⟩
  have ld:=ldr (H:=H) (s:=1) hav
  obtain⟨ka,sa,rfl,hsa⟩:=kk.out.2.1 i a r hav hv
  have hrl2:=aU r
  have hltI:(i:Int)<(rows.length:Int):=by omega
  by_cases hb:64<r.length
  ·have hbI:((64:Int)<(r.length:Int)):=by omega
   have kr:=ah.mk (k2.out i r hv hb)
   clear hav hv hsa hb
   refine gx4 @gL @bH @cW @al ?_
   exact⟨_,_,rfl,rfl,by rw[kr.out]⟩
  ·have hbI:¬((64:Int)<(r.length:Int)):=by omega
   have kt2:ah (((rows.take (i+1)).any fun r=>decide (64<r.length))=false):=⟨by rw[a9 hv,aeP,kt.out];simp;omega⟩
   clear hav hv hsa hb
   refine gx4 @gL @bH @cW @al ?_
   exact⟨rows.length - (i+1),by omega,i+1,by omega,rfl,kt2,by simp⟩
 have hie:i=rows.length:=by omega
 subst hie
 have hany:=kt.out
 rw[abU] at hany
 have kany:=ah.mk hany
 clear hany kt hi
 by_cases h3:rows.length=owners.length
 rotate_left 1
 ·have kr:=ah.mk (k3.out h64 kany.out h3)
  have hn:¬((rows.length:Int)=(owners.length:Int)):=by omega
  clear h3
  repeat' (first|simp(maxSteps:=999999)(disch:=first|exact dZ|fail)only[gW,reduceIte,abn,gBQ,gL,bH,cW, *]|refine dX ?_ ?_<;>(intro _;try omega))
  exact⟨_,_,rfl,rfl,by rw[kr.out]⟩
 have kres:=ah.mk (k4.out h64 kany.out h3)
 have kn:=ah.mk h3
 have hn:(owners.length:Int)=(rows.length:Int):=by omega
 clear h3
 repeat' (first|simp(maxSteps:=999999)(disch:=first|exact dZ|fail)only[gW,reduceIte,abn,gBQ,gL,bH,cW, *]|refine dX ?_ ?_<;>(intro _;try omega))
 refine Run.gen fun e0 he0 hd0 hp0 hr0=>?_
 have f1:e0.get 1=.ptr (.box h.boxes.length) 0:=by rw[he0];simp only[gW,reduceIte,abn,gBQ];exact g1
 have f4:e0.get 4=.v (.int .i64 (0:Nat)):=by rw[he0];exact gR
 have fd:e0.defers=[]:=by rw[hd0];simp only[gW,reduceIte,abn,gBQ];exact hd
 clear he0 hd0 hp0 hr0 g1 g3 hd hlt
 refine aD (fun m e H2=>∃i:Nat,i<=rows.length/\m=rows.length - i/\ah (∀j,j<i->mT rows owners j=true)/\e.get 1=.ptr (.box h.boxes.length) 0/\e.get 4=.v (.int .i64 (i:Nat))/\e.defers=[]/\H2=H) ?_ rows.length _ _ ?_
 rotate_left 1
 ·exact⟨0,abG _,rfl,⟨fun j hj=>absurd hj (acH _)⟩,f1,f4,fd,rfl⟩
 clear f1 f4 fd
 rintro m e H3 ⟨i,hi,rfl,kf,g1,g4,hd,rfl⟩
 by_cases hlt:i<rows.length
 rotate_left 1
 ·have hie:i=rows.length:=by omega
  subst hie
  have k0:ah (res=0):=⟨by
   rw[kres.out,if_pos]
   rw[abE]
   intro j hj
   exact kf.out j (abQ.1 hj)⟩
  refine gx3 @gL @bH @cW ?_
  exact⟨_,_,rfl,rfl,by rw[k0.out]⟩
 have hs1:s=1:=kk.out.1 (by intro q;rw[q] at hlt;simp at hlt)
 subst hs1
 have hs2:sy=1:=kk.out.2.2 (by intro q;have h0:=kn.out;rw[q,ab7] at h0;omega)
 subst hs2
 obtain⟨a,hav⟩:∃a,xs[i]?=some a:=⟨_,abo (by omega)⟩
 obtain⟨r,hv⟩:∃r,rows[i]?=some r:=⟨_,abo hlt⟩
 obtain⟨a0,hav0⟩:∃a,xs[0]?=some a:=⟨_,abo (by omega)⟩
 obtain⟨r0,hv0⟩:∃r,rows[0]?=some r:=⟨_,abo (by omega)⟩
 have ld:=ldr (H:=H3) (s:=1) hav
 have ld0:=ldr (H:=H3) (s:=1) hav0
 obtain⟨ka,sa,rfl,hsa⟩:=kk.out.2.1 i a r hav hv
 obtain⟨ka0,sa0,rfl,hsa0⟩:=kk.out.2.1 0 a0 r0 hav0 hv0
 have hrl1:=aU r
 have hrl0:=aU r0
 have ldo:=ldi (H:=H3) (l:=owners) (i:=i) (s:=1) (by have:=kn.out;omega)
 have hfin:mT rows owners i=(!r.isEmpty&&decide (r.length=r0.length)&&iR (at0 owners i)&&r.all inQ):=by
  unfold mT iR
  have g1:rows.getD i []=r:=by rw[abw,hv];rfl
  have g2:rows.getD 0 []=r0:=by rw[abw,hv0];rfl
  rw[g1,g2]
 have kfin:=ah.mk hfin
 have kbad:ah (mT rows owners i=false->res=230):=⟨by
  intro q
  rw[kres.out,if_neg]
  intro z
  rw[abE] at z
  have:=z i (abQ.2 hlt)
  rw[q] at this;cases this⟩
 have hltI:(i:Int)<(rows.length:Int):=by omega
 have h0I:(0:Int)<(rows.length:Int):=by omega
 have z0:(0:Int).toNat=0:=rfl
 have ks:=ah.mk hsa
 have hbig:r.length<=64:=by
  have q:=kany.out
  rw[List.any_eq_false] at q
  have:=q r (abz hv)
  simpa using this
 clear hfin hav hv hsa hav0 hv0 hsa0
 generalize at0 owners i=o at *
 by_cases e1:r.length=0
 ·have hq1:decide ((r.length:Int)<1)=true:=decide_eq_true (by omega)
  have kb:ah (res=230):=⟨kbad.out (by rw[kfin.out,List.length_eq_zero_iff.1 e1];rfl)⟩
  clear e1
  refine gx4 @gL @bH @cW @al ?_
  refine bf Bz kZq ?_
  refine gx4 @gL @bH @cW @al ?_
  exact⟨_,_,rfl,rfl,by rw[kb.out]⟩
 have hq1:decide ((r.length:Int)<1)=false:=decide_eq_false (by omega)
 have he1:r.isEmpty=false:=by cases r with|nil=>exact absurd rfl e1|cons _ _=>rfl
 clear e1
 by_cases e2:r.length=r0.length
 rotate_left 1
 ·have hq2:decide ((r.length:Int)=(r0.length:Int))=false:=decide_eq_false (by omega)
  have kb:ah (res=230):=⟨kbad.out (by rw[kfin.out,he1,decide_eq_false e2];rfl)⟩
  clear e2 he1
  refine gx4 @gL @bH @cW @al ?_
  refine bf Bz kZq ?_
  refine gx4 @gL @bH @cW @al ?_
  exact⟨_,_,rfl,rfl,by rw[kb.out]⟩
 have hq2:decide ((r.length:Int)=(r0.length:Int))=true:=decide_eq_true (by omega)
 have ke2:=ah.mk e2
 clear e2
 by_cases e3:o<0
 ·have hq3:decide (o<0)=true:=decide_eq_true e3
  have kb:ah (res=230):=⟨kbad.out (by rw[kfin.out];unfold iR;rw[decide_eq_false (show ¬0<=o by omega)];simp)⟩
  clear e3 he1
  refine gx4 @gL @bH @cW @al ?_
  refine bf Bz kZq ?_
  refine gx4 @gL @bH @cW @al ?_
  exact⟨_,_,rfl,rfl,by rw[kb.out]⟩
 have hq3:decide (o<0)=false:=decide_eq_false e3
 by_cases e4:64<=o
 ·have hq4:decide (64<=o)=true:=decide_eq_true e4
  have kb:ah (res=230):=⟨kbad.out (by rw[kfin.out];unfold iR;rw[decide_eq_false (show ¬o<=63 by omega)];simp)⟩
  clear e3 e4 he1
  refine gx4 @gL @bH @cW @al ?_
  refine bf Bz kZq ?_
  refine gx4 @gL @bH @cW @al ?_
  exact⟨_,_,rfl,rfl,by rw[kb.out]⟩
 have hq4:decide (64<=o)=false:=decide_eq_false e4
 have kfin2:ah (mT rows owners i=r.all inQ):=⟨by
  rw[kfin.out,he1,decide_eq_true ke2.out]
  unfold iR
  rw[decide_eq_true (show 0<=o by omega),decide_eq_true (show o<=63 by omega)];rfl⟩
 clear e3 e4 he1
 refine gx4 @gL @bH @cW @al ?_
 refine bf Bz kZq ?_
 refine gx4 @gL @bH @cW @al ?_
 refine Run.gen fun e0 he0 hd0 hp0 hr0=>?_
 have f1:e0.get 1=.ptr (.box h.boxes.length) 0:=by rw[he0];simp only[gW,reduceIte,abn,gBQ];exact g1
 have f4:e0.get 4=.v (.int .i64 (i:Nat)):=by rw[he0];simp only[gW,reduceIte,abn,gBQ];exact g4
 have f5:e0.get 5=.v (.int .i64 (0:Nat)):=by rw[he0];exact gR
 have fd:e0.defers=[]:=by rw[hd0];simp only[gW,reduceIte,abn,gBQ];exact hd
 clear he0 hd0 hp0 hr0 g1 g4 hd
 refine aD (fun m e H2=>∃j:Nat,j<=r.length/\m=r.length - j/\ah ((r.take j).all inQ=true)/\e.get 1=.ptr (.box h.boxes.length) 0/\e.get 4=.v (.int .i64 (i:Nat))/\e.get 5=.v (.int .i64 (j:Nat))/\e.defers=[]/\H2=H3) ?_ r.length _ _ ?_
 rotate_left 1
 ·exact⟨0,abG _,rfl,⟨by simp⟩,f1,f4,f5,fd,rfl⟩
 clear f1 f4 f5 fd hq1 hq2 hq3 hq4 ldo ld0
 rintro m e H4 ⟨j,hj,rfl,ka4,g1,g4,g5,hd,rfl⟩
 by_cases hlt2:j<r.length
 ·have hs3:sa=1:=ks.out (by intro q;rw[q] at hlt2;simp at hlt2)
  subst hs3
  have ldx:=ldi (H:=H4) (s:=1) hlt2
  have hv2:r[j]?=some (at0 r j):=by rw[abo hlt2,bN hlt2]
  have hltJ:(j:Int)<(r.length:Int):=by omega
  have htake:(r.take (j+1)).all inQ=inQ (at0 r j):=by rw[a9 hv2,adE,ka4.out];simp
  have kt5:=ah.mk (abp htake (abz hv2))
  have hqq:inQ (at0 r j)=(decide (0<=at0 r j)&&decide (at0 r j<1073741789)):=rfl
  have kqq:=ah.mk hqq
  clear hv2 htake hqq
  generalize at0 r j=n at *
  by_cases d1:n<0
  ·have hd1:decide (n<0)=true:=decide_eq_true d1
   have kb:ah (res=230):=⟨kbad.out (by rw[kfin2.out,afI];exact⟨n,kt5.out.2,by rw[kqq.out,decide_eq_false (show ¬0<=n by omega)];simp⟩)⟩
   clear d1
   refine gx4 @gL @bH @cW @al ?_
   exact⟨_,_,rfl,rfl,by rw[kb.out]⟩
  have hd1:decide (n<0)=false:=decide_eq_false d1
  by_cases d2:1073741789<=n
  ·have hd2:decide (1073741789<=n)=true:=decide_eq_true d2
   have kb:ah (res=230):=⟨kbad.out (by rw[kfin2.out,afI];exact⟨n,kt5.out.2,by rw[kqq.out,decide_eq_false (show ¬n<1073741789 by omega)];simp⟩)⟩
   clear d1 d2
   refine gx4 @gL @bH @cW @al ?_
   exact⟨_,_,rfl,rfl,by rw[kb.out]⟩
  have hd2:decide (1073741789<=n)=false:=decide_eq_false d2
  have kt2:ah ((r.take (j+1)).all inQ=true):=⟨by rw[kt5.out.1,kqq.out,decide_eq_true (show 0<=n by omega),decide_eq_true (show n<1073741789 by omega)];rfl⟩
  clear d1 d2
  refine gx4 @gL @bH @cW @al ?_
  exact⟨r.length - (j+1),by omega,j+1,by omega,rfl,kt2,by simp⟩
 ·have hje:j=r.length:=by omega
  subst hje
  have hall:=ka4.out
  rw[abU] at hall
  have kf2:ah (∀j,j<i+1->mT rows owners j=true):=⟨fun j hj=>by
   rcases Nat.lt_succ_iff_lt_or_eq.1 hj with q|q
   ·exact kf.out j q
   ·rw[q,kfin2.out];exact hall⟩
  clear hall
  repeat' (first|simp(maxSteps:=999999)(disch:=first|exact dZ|fail)only[gW,reduceIte,abn,gBQ,gL,bH,cW,al, *]|refine dX ?_ ?_<;>(intro _;try omega))
  exact⟨rows.length - (i+1),by omega,i+1,by omega,rfl,kf2,by simp⟩
end Go.Proofs.YtnfciiiohoafaaaGreatDoor
end
section
namespace Go.AE
open Go.RowKit (Below)
def qc(z:Nat)(cs:List AV)(off len:Nat):List (List AV):=(aby len).map fun i=>(cs.drop (off+i * z)).take z
theorem nJ(z:Nat)(cs:List AV)(off:Nat):∀len,(qc z cs off len).flatten=(cs.drop off).take (len * z)
 |0=>by simp[qc]
 |n+1=>by
  have ih:=nJ z cs off n
  unfold qc at *
  rw[acx,List.map_append,acr,ih,ab4,Nat.one_mul,List.take_add,List.drop_drop]
  simp
theorem Hk(z:Nat)(cs:List AV)(off len:Nat):(qc z cs off len).length=len:=by unfold qc;simp
theorem DP{z:Nat}{cs:List AV}{off len:Nat}(h:off+len * z<=cs.length):∀r∈qc z cs off len,r.length=z:=by
 intro r hr
 unfold qc at hr
 obtain⟨i,hi,rfl⟩:=aco.1 hr
 have hi:=abQ.1 hi
 have:(i+1) * z<=len * z:=Nat.mul_le_mul_right _ hi
 rw[ab4] at this
 rw[abI,List.length_drop];omega
mutual
def jh(z:Nat)(h:ae):AV->AV
 | .list k sz es=>.list (di k) sz (qG z h es)
 | .arr b off len cap=>match h.boxes[b]? with
  |some cs=>if off+len * z<=cs.length/\0<z then .list .held z (eF (qc z cs off len)) else .arr b off len cap
  |none=>.arr b off len cap
 | .tuple cs=>.tuple (j3 z h cs)
 | .agg cs=>.agg (j3 z h cs)
 | .iface t x=>.iface t (jh z h x)
 |x=>x
def j3(z:Nat)(h:ae):List AV->List AV
 | []=>[]
 |x::r=>jh z h x::j3 z h r
def qG(z:Nat)(h:ae):List (List AV)->List (List AV)
 | []=>[]
 |r::rs=>j3 z h r::qG z h rs
end
section
variable {z:Nat} {h:ae}
theorem BA:∀a b:List AV,j3 z h (a++b)=j3 z h a++j3 z h b
 | [],b=>rfl
 |x::a,b=>by rw[ab3,j3,BA a b,j3,ab3]
theorem pE:∀es:List (List AV),(qG z h es).flatten=j3 z h es.flatten
 | []=>rfl
 |r::es=>by rw[qG,acp,acp,BA,pE es]
theorem BB:∀a:List AV,(j3 z h a).length=a.length
 | []=>rfl
 |x::a=>by rw[j3,ab0,BB a,ab0]
theorem BC:∀a:List (List AV),(qG z h a).length=a.length
 | []=>rfl
 |x::a=>by rw[qG,ab0,BC a,ab0]
theorem xT{sz:Nat}:∀{es:List (List AV)},(∀r∈es,r.length=sz)->∀r∈qG z h es,r.length=sz
 | [],_,r,hr=>by cases hr
 |a::es,hh,r,hr=>by
  rw[qG] at hr
  rcases List.mem_cons.1 hr with rfl|hr
  ·rw[BB];exact hh a abM
  ·exact xT (fun r hr=>hh r (List.mem_cons_of_mem _ hr)) r hr
theorem Kx(x:AV):(jh z h x).bu=x.bu:=by
 cases x with
 |arr b off len cap=>
  rw[jh]
  split
  ·split<;>rfl
  ·rfl
 |_=>rfl
theorem vM:∀a:List AV,(j3 z h a).all AV.bu=a.all AV.bu
 | []=>rfl
 |x::a=>by rw[j3,aen,Kx,vM a,aen]
end
section
variable {P:Program} {G:Nat->Option (List AV)} {ok:FuncId->Nat->Code->Bool} {w0 w w':World} {K:aB} {h:ae} {z:Nat}
def aB.still(K:aB)(w:World):aB:={K with base:=w.heap.size,β:=[],γ:=[],tn:=0,md:=[],ic:=fun g j=>w.cell? ⟨g,j,none⟩}
theorem mU(s:Sim K G ok w0 h w):∀g j c,K.ic g j=some c->(K.still w).ic g j=some c:=s.ic
mutual
theorem aI.frz(s:Sim K G ok w0 h w):∀{x:AV} {c:Value},aI K x c->aV 0 0 0 (jh z h x)=true->aI (K.still w) (jh z h x) c
 |_,_,.bad c,_=>.bad c
 |_,_,.v x hx,_=>.v x hx
 |_,_,.nil sz,_=>.nil sz
 |_,_,.eK sz a,_=>.eK sz a
 |_,_,.list k sz es g off m cap cells hn hr hv hc ht ha,hf=>by
  simp only[jh,aV,abr] at hf
  have hv2:=ao.frz s hv (by rw[<-pE,eL];exact hf.2)
  rw[<-pE] at hv2
  have hn2:m=(qG z h es).length:=by rw[BC];exact hn
  have ha2:(qG z h es).flatten.all AV.bu=true:=by rw[pE,vM];exact ha
  have hr2:=xT (z:=z) (h:=h) hr
  have hc2:=fun j c hj=>s.ic _ _ _ (hc j c hj)
  cases k with
  |nil=>exact ht.2.elim
  |tight=>exact .list .tight sz _ g off m cap cells hn2 hr2 hv2 hc2 ⟨ht.1,ht.2⟩ ha2
  |free i=>exact .list .held sz _ g off m cap cells hn2 hr2 hv2 hc2 ⟨ht.1,trivial⟩ ha2
  |held=>exact .list .held sz _ g off m cap cells hn2 hr2 hv2 hc2 ⟨ht.1,trivial⟩ ha2
 |_,_,.arr b g off len cap off' cap' hb hl hcc ho hr,hf=>by
  simp only[jh] at hf ⊢
  cases hcs:h.boxes[b]? with
  |none=>
   rw[hcs] at hf
   simp[aV] at hf
  |some cs=>
   rw[hcs] at hf
   simp only at hf ⊢
   split at hf
   ·rename_i hle
    rw[if_pos hle]
    obtain⟨hle,hz⟩:=hle
    obtain⟨q1,q2,q3,cells,e,q4,q5⟩:=s.box b g cs hb hcs
    have hle2:=q5.le
    by_cases h0:cap=0
    ·have:len=0:=by omega
     subst this
     exact .list .held z [] g off' 0 cap' [] rfl (fun _ h=>by cases h) .nil (fun _ _ h=>by simp at h) ⟨abG _,trivial⟩ rfl
    ·have hoff:off'=off:=by rcases ho with p|p<;>omega
     subst hoff
     have hv:ao K ((cs.drop off').take (len * z)) (((cells.toList.take cs.length).drop off').take (len * z)):=(q5.1.drop off').take (len * z)
     have hv2:=ao.lJ (K2:=K.still w) (mU s) (ao.hold hv) (by
      simp only[aV,abr] at hf
      have:=hf.2
      rw[<-eL,je,nJ] at this
      exact this)
     rw[<-nJ,<-je] at hv2
     refine .list .held z _ g off' len cap' (((cells.toList.take cs.length).drop off').take (len * z)) (by rw[mH,Hk]) (nt (DP hle)) hv2 (fun j c hj=>?_) ⟨by omega,trivial⟩ ?_
     ·have hjl:j<len * z:=by
       have:=(abm.1 hj).1
       rw[abI] at this;omega
      rw[acj,if_pos hjl,acw,acj,if_pos (by omega)] at hj
      show w.cell? ⟨g,off'+j,none⟩=some c
      rw[fO q4]
      simpa using hj
     ·rw[je,oG,nJ]
      rw[abE] at q3 ⊢
      exact fun x hx=>q3 x (List.mem_of_mem_drop (acq hx))
   ·simp[aV] at hf
 |_,_,.agg cs vs hv,hf=>.agg _ vs (ao.frz s hv (by simpa only[jh,aV] using hf))
 |_,_,.tuple cs vs hv,hf=>.tuple _ vs (ao.frz s hv (by simpa only[jh,aV] using hf))
 |_,_,.box b g off hb,hf=>by simp[jh,aV] at hf
 |_,_,.dW g off,_=>.dW g off
 |_,_,.elem sz es i off g o p cells hr hv hc hi hp ha,hf=>.elem sz es i off g o p cells hr (ao.lJ (mU s) hv (by rw[eL];simpa only[jh,aV] using hf)) (fun j c hj=>s.ic _ _ _ (hc j c hj)) hi hp ha
 |_,_,.func fn first cap fs cs h1 h2,hf=>by
  simp only[jh,aV,abr] at hf
  exact .func fn first cap fs cs (ao.lJ (mU s) h1 hf.1) (ao.lJ (mU s) h2 hf.2)
 |_,_,.yield l g hl,hf=>by simp[jh,aV] at hf
 |_,_,.iface t x c hx,hf=>by
  simp only[jh,aV] at hf
  exact .iface t _ c (aI.frz s hx hf)
theorem ao.frz(s:Sim K G ok w0 h w):∀{xs:List AV} {cs:List Value},ao K xs cs->bA 0 0 0 (j3 z h xs)=true->ao (K.still w) (j3 z h xs) cs
 |_,_,.nil,_=>.nil
 |_,_,.cons x c xs cs hx hs,hf=>by
  simp only[j3,bA,abr] at hf
  exact .cons _ c _ cs (aI.frz s hx hf.1) (ao.frz s hs hf.2)
end
theorem Sim.still(s:Sim K G ok w0 h w)(hG:∀g cs,G g=some cs->bA 0 0 0 cs=true):Sim (K.still w) G ok w ⟨[],[],0,[]⟩ w:=by
 refine⟨Below.refl _ _,abq _,fun g j c hc=>hc,fun g cs hg=>?_,rfl,fun b b' g hb=>by simp[aB.still] at hb,fun b g cs hb=>by simp[aB.still] at hb,rfl,fun b b' g hb=>by simp[aB.still] at hb,fun l g r hl=>by simp[aB.still] at hl,rfl,fun t ht=>?_,fun t t' ht=>?_,fun r hr=>by simp[aB.still] at hr,rfl⟩
 ·obtain⟨cells,q1,q2⟩:=s.dW g cs hg
  exact⟨cells,ao.lJ (K1:=K) (K2:=K.still w) (mU s) q1 (hG g cs hg),fun j c hj=>s.ic _ _ _ (q2 j c hj)⟩
 ·simp[alive] at ht
 ·simp[alive] at ht
def ER(z:Nat)(R:Rec)(g:FuncId)(args:List AV)(h:ae):Option (AV × ae):=
 if bA 0 0 0 (j3 z h args)=true then
  match R.call g (j3 z h args) ⟨[],[],0,[]⟩ with
  |some (.ret (.v y),_)=>some (.v y,h)
  |_=>none
 else none
theorem Pt{prims:FuncId->Option (List AV->ae->Option (AV × ae))}(hp:Prog P)(hG:∀g cs,G g=some cs->bA 0 0 0 cs=true)(hprim:∀V g p,prims g=some p->jb P G V g p){g:FuncId}(hfn:∃fn,P.funcs[g]?=some fn/\fn.body.isSome=true)(V:World):
 jb P G V g (ER z (whole P G prims) g):=by
 refine⟨hfn,fun args h x h' hx K w vargs hv hs cs=>?_⟩
 unfold ER at hx
 split at hx
 ·rename_i hf
  split at hx
  ·rename_i y h2 hc
   injection hx with hx
   injection hx with hx1 hx2
   subst hx1;subst hx2
   obtain⟨-,hsim⟩:=(su hp (hprim w)).call g _ _ _ _ hc
   have s0:=Sim.still hs hG
   obtain⟨K1,w',fr,le,s1,hst,hfr,v,hv',hle⟩:=hsim (K.still w) w vargs (ao.frz hs hv hf) s0 cs
   have hb:Below w.heap.size w w':=by have:=s1.old;rwa [le.base] at this
   refine⟨.returned v,w',fr,⟨v,_,rfl,aB.zr hs,?_,Sim.qB hs hb⟩,hst,hfr,hle⟩
   cases hv' with
   |v _ q=>exact .v _ q
  ·cases hx
 ·cases hx
def jE(z:Nat)(R:Rec)(L M:List FuncId)(g:FuncId):Option (List AV->ae->Option (AV × ae)):=if L.contains g=true then some (sK R g) else if M.contains g=true then some (ER z R g) else none
theorem BD{prims:FuncId->Option (List AV->ae->Option (AV × ae))}(hp:Prog P)(hG:∀g cs,G g=some cs->bA 0 0 0 cs=true)(hprim:∀V g p,prims g=some p->jb P G V g p){L M:List FuncId}(hL:∀g∈L,∃fn,P.funcs[g]?=some fn/\fn.body.isSome=true)(hM:∀g∈M,∃fn,P.funcs[g]?=some fn/\fn.body.isSome=true):
 ∀V g p,jE z (whole P G prims) L M g=some p->jb P G V g p:=by
 intro V g p he
 unfold jE at he
 split at he
 ·rename_i hg
  injection he with he
  subst he
  exact Ey hp hG hprim (hL g (by simpa using hg)) V
 ·split at he
  ·rename_i hg
   injection he with he
   subst he
   exact Pt hp hG hprim (hM g (by simpa using hg)) V
  ·cases he
theorem dm{R:Rec}{L M:List FuncId}{g:FuncId}{args args':List AV}{x y:AV}{h1:ae}(hg:L.contains g=true)(ha:bM args=args')(hf:bA 0 0 0 args'=true)(hc:R.call g args' ⟨[],[],0,[]⟩=some (.ret y,h1))(hy:jK h1 y=x)(hx:aV 0 0 0 x=true):
 ∀h,(whole P G (jE z R L M)).call g args h=some (.ret x,h):=by
 intro h
 subst ha;subst hy
 rw[lu]
 unfold gQ jE
 rw[if_pos hg]
 simp only[sK,xA,if_pos hf,hc,if_pos hx,abJ]
theorem Ky{R:Rec}{L M:List FuncId}{g:FuncId}{args args':List AV}{y:Value}{h h1:ae}(hg:L.contains g=false)(hm:M.contains g=true)(ha:j3 z h args=args')(hf:bA 0 0 0 args'=true)(hc:R.call g args' ⟨[],[],0,[]⟩=some (.ret (.v y),h1)):
 (whole P G (jE z R L M)).call g args h=some (.ret (.v y),h):=by
 subst ha
 rw[lu]
 unfold gQ jE
 rw[if_neg (by rw[hg];exact Bool.false_ne_true),if_pos hm]
 simp only[ER,if_pos hf,hc]
 rfl
end
end Go.AE
end
section
namespace Go.Proofs.YtnfciiiohoafaaaGreatDoor
open Go.AE Go.NT
theorem Yb:Tryz.f59.results.toList=[.tmp 2]:=kZq
theorem Ws:Tryz.f92.results.toList=[.tmp 2]:=kZq
theorem RK:Tryz.f42.results.toList=[.tmp 2]:=kZq
theorem V1(n:Int)(h:ae):W4.call 59 [im n] h=some (.ret (.v (.bool (inQ n))),h):=by
 unfold im inQ Qi
 by_cases h0:0<=n
 ·refine ar rfl Tryz.func59 rfl ?_
  have:decide (0<=n)=true:=by simp[h0]
  exact gz2 @Yb @ac2
 ·refine ar rfl Tryz.func59 rfl ?_
  have:decide (0<=n)=false:=by simp[h0]
  exact gz2 @Yb @ade
theorem VC(h:ae)(x:AV)(l:List Int)(hx:IL x l)(hl:l.length<=9223372036854775807):∃r h',W4.call 92 [x] h=some (r,h')/\h'=h/\r=.ret (.v (.bool (l.all inQ))):=by
 obtain⟨k,s,rfl,hs⟩:=hx
 have ks:=ah.mk hs
 clear hs
 have u23:=Tryz.underlying23
 have z3:=sz3
 have hil:=aU l
 refine aL rfl Tryz.func92 rfl ?_
 refine gx1 @Ws ?_
 refine aD (fun m e H=>∃i:Nat,i<=l.length/\m=l.length - i/\ah ((l.take i).all inQ=true)/\e.get 0=.list k s (ints l)/\e.get 3=.v (.int .i64 (i:Nat))/\e.defers=[]/\H=h) ?_ l.length _ _ ?_
 rotate_left 1
 ·refine⟨0,abG _,rfl,⟨by simp⟩,?_,?_,?_,rfl⟩<;>exact gR
 rintro m e H ⟨i,hi,rfl,ka,g0,g3,hd,rfl⟩
 by_cases hlt:i<l.length
 ·have hs1:s=1:=ks.out (by intro q;rw[q] at hlt;simp at hlt)
  subst hs1
  have ld:=ldi (H:=H) (s:=1) hlt
  have hv:l[i]?=some (at0 l i):=by rw[abo hlt,bN hlt]
  have hltI:(i:Int)<(l.length:Int):=by omega
  have htake:(l.take (i+1)).all inQ=inQ (at0 l i):=by rw[a9 hv,adE,ka.out];simp
  have kt:=ah.mk (abp htake (abz hv))
  have c:=V1 (at0 l i) H
  unfold im at c
  clear hv htake
  generalize at0 l i=n at *
  cases hq:inQ n with
  |false=>
   have kf:ah (l.all inQ=false):=⟨by rw[afI];exact⟨n,kt.out.2,by simp[hq]⟩⟩
   rw[hq] at c
   clear hq
   refine gx2 @Ws @al ?_
   exact⟨_,_,rfl,rfl,by rw[kf.out]⟩
  |true=>
   have kt2:ah ((l.take (i+1)).all inQ=true):=⟨by rw[kt.out.1,hq]⟩
   rw[hq] at c
   clear hq
   refine gx2 @Ws @al ?_
   exact⟨l.length - (i+1),by omega,i+1,by omega,rfl,kt2,by simp⟩
 ·have:i=l.length:=by omega
  subst this
  have:=ka.out
  rw[abU] at this
  have kan:=ah.mk this
  clear this
  repeat' (first|simp(maxSteps:=999999)(disch:=first|exact dZ|fail)only[gW,reduceIte,abn,gBQ,Ws, *]|refine dX ?_ ?_<;>(intro _;try omega))
  exact⟨_,_,rfl,rfl,by rw[kan.out]⟩
theorem Hl(h:ae)(x y:AV)(rows:List (List Int))(owners:List Int)(hx:RL x rows)(hy:IL y owners):∃h',W4.call 42 [.agg [x,y]] h=some (.ret (.v (.int .i64 (aK rows:Nat))),h')/\h'=h.push [x,y]:=by
 obtain⟨k,s,xs,rfl,hs,hxl,hxr⟩:=hx
 have bx:(AV.agg [.list k s (xs.map fun a=>[a]),y]).aC=some [.list k s (xs.map fun a=>[a]),y]:=by
  obtain⟨ky,sy,rfl,-⟩:=hy;rfl
 have l0:=tY (ak h [.list k s (xs.map fun a=>[a]),y])
 have u23:=Tryz.underlying23
 have u22:=Tryz.underlying22
 have z23:=jC
 have hil:(xs.map fun a=>[a]).length=rows.length:=by rw[abu];exact hxl
 refine dL rfl Tryz.func42 rfl ?_
 by_cases h0:rows.length=0
 ·have hq:(rows.length:Int)=0:=by omega
  have hc:aK rows=1:=by unfold aK;rw[if_pos h0]
  rw[hc]
  clear h0 hxr hs hxl hc
  refine gx3 @RK @aw @bH ?_
  exact⟨_,rfl,rfl⟩
 ·have hq:¬((rows.length:Int)=0):=by omega
  obtain⟨a0,hav0⟩:∃a,xs[0]?=some a:=⟨_,abo (by omega)⟩
  obtain⟨r0,hv0⟩:∃r,rows[0]?=some r:=⟨_,abo (by omega)⟩
  have hs1:s=1:=hs (by intro q;rw[q] at h0;simp at h0)
  subst hs1
  have ld0:=ldr (H:=h.push [.list k 1 (xs.map fun a=>[a]),y]) (s:=1) hav0
  obtain⟨ka0,sa0,rfl,hsa0⟩:=hxr 0 a0 r0 hav0 hv0
  have hc:aK rows=r0.length:=by
   unfold aK
   rw[if_neg h0,abw,hv0];rfl
  rw[hc]
  have hrl:=aU r0
  have h0I:(0:Int)<(rows.length:Int):=by omega
  have z0:(0:Int).toNat=0:=rfl
  clear h0 hxr hs hxl hc hav0 hv0 hsa0
  refine gx4 @RK @aw @bH @al ?_
  exact⟨_,rfl,rfl⟩
theorem Kz(x y:AV)(rows:List (List Int))(owners:List Int)(hx:RL x rows)(hy:IL y owners):∀h,W4.call 97 [.agg [x,y]] h=some (.ret (.v (.int .i64 (bC rows owners))),h):=by
 obtain⟨h1,h2⟩:=hx.xS
 obtain⟨h3,h4⟩:=hy.hold
 exact aF (L:=L4) (args':=[.agg [au x,au y]]) rfl rfl (by simp[bA,aV,h2,h4]) (Po (au x) (au y) rows owners h1 h3 _) rfl rfl
theorem zE{b:Nat}:aJ Tryz.prog 81 (.ptr (.box b) 0) 0=some (.ptr (.box b) 0):=kZq
theorem zF{b:Nat}:aJ Tryz.prog 81 (.ptr (.box b) 0) 1=some (.ptr (.box b) 1):=kZq
theorem Pu{H:ae}{b:Nat}{x y:AV}(hb:H.boxes[b]?=some [x,y]):ai Tryz.prog Gt H 3 (.ptr (.box b) 0)=some x:=by rw[dc ag3 hb];rfl
theorem Pv{H:ae}{b:Nat}{x y:AV}(hb:H.boxes[b]?=some [x,y]):ai Tryz.prog Gt H 3 (.ptr (.box b) 1)=some y:=by rw[dc ag3 hb];rfl
theorem RL.aC{x:AV}{rows:List (List Int)}(h:RL x rows):x.aC=some [x]:=by obtain⟨k,s,xs,rfl,-⟩:=h.form;rfl
theorem IL.aC{x:AV}{l:List Int}(h:IL x l):x.aC=some [x]:=by obtain⟨k,s,rfl,-⟩:=h;rfl
theorem ff{x y:AV}{rows:List (List Int)}{owners:List Int}(hx:RL x rows)(hy:IL y owners):(AV.agg [x,y]).aC=some [x,y]:=by
 obtain⟨k,s,xs,rfl,-⟩:=hx.form
 obtain⟨ky,sy,rfl,-⟩:=hy
 rfl
theorem RL.cH{x:AV}{rows:List (List Int)}(h:RL x rows):cH Tryz.prog 22 x=some (.v (.int .i64 (rows.length:Nat))):=by
 obtain⟨k,s,xs,rfl,hl⟩:=h.form
 have u22:=Tryz.underlying22
 unfold Go.AE.cH
 rw[u22]
 simp only[abu,hl]
theorem IL.cH{x:AV}{l:List Int}(h:IL x l):cH Tryz.prog 23 x=some (.v (.int .i64 (l.length:Nat))):=by
 obtain⟨k,s,rfl,-⟩:=h
 have u23:=Tryz.underlying23
 unfold Go.AE.cH
 rw[u23]
 simp only[aU]
def dx(rows:List (List Int))(owners aa:List Int):Int:=if bC rows owners≠0 then bC rows owners else if decide (aa.length=aK rows)&&aa.all aX then 0 else 340
theorem Hm(h:ae)(x y z:AV)(rows:List (List Int))(owners aa:List Int)(hx:RL x rows)(hy:IL y owners)(hz:IL z aa)(hl:aa.length<=1000000):
 ∃r h',W4.call 129 [.agg [x,y],z] h=some (r,h')/\Ext h h'/\r=.ret (.v (.int .i64 (dx rows owners aa))):=by
 have bx:=ff hx hy
 have c1:=Kz x y rows owners hx hy
 obtain⟨_,c2,rfl⟩:=vL (h.push [x,y]) x y rows owners hx hy
 have c3:=pD (pr:=sP) rfl rfl 168 [] (fun n=> !aX n) ((h.push [x,y]).push [x,y]) z aa hz hl (fun n _=>Kw n _)
 have l0:=ma (ak h [x,y])
 have ln:=hz.cH
 have hp:∀q,q≠0->bC rows owners=q->dx rows owners aa=q:=fun q h1 h2=>by unfold dx;rw[if_pos (by rw[h2];exact h1),h2]
 have hp0:bC rows owners=0->dx rows owners aa=if decide (aa.length=aK rows)&&aa.all aX then 0 else 340:=fun h2=>by unfold dx;rw[if_neg (by simp[h2])]
 have kp:=ah.mk (abp hp hp0)
 clear hp hp0 hx hy hz
 rw[EP] at c3
 generalize dx rows owners aa=res at *
 refine aL rfl Tryz.func129 rfl ?_
 by_cases h0:bC rows owners=0
 ·rw[h0] at c1
  have k0:=kp.out.2 h0
  clear h0
  by_cases h1:aa.length=aK rows
  ·have hq:decide ((aa.length:Int)=((aK rows:Nat):Int))=true:=decide_eq_true (by omega)
   rw[decide_eq_true h1,ac2] at k0
   clear h1
   cases h2:aa.all aX with
   |true=>
    rw[h2] at c3 k0
    have kr:=ah.mk k0
    clear h2 k0
    refine gx2 @EN @aw ?_
    exact⟨_,_,rfl,(Ext.push _ _).trans (Ext.push _ _),by rw[kr.out];rfl⟩
   |false=>
    rw[h2] at c3 k0
    have kr:=ah.mk k0
    clear h2 k0
    refine gx2 @EN @aw ?_
    exact⟨_,_,rfl,(Ext.push _ _).trans (Ext.push _ _),by rw[kr.out];rfl⟩
  ·have hq:decide ((aa.length:Int)=((aK rows:Nat):Int))=false:=decide_eq_false (by omega)
   rw[decide_eq_false h1,ade] at k0
   have kr:=ah.mk k0
   clear h1 k0
   refine gx2 @EN @aw ?_
   exact⟨_,_,rfl,(Ext.push _ _).trans (Ext.push _ _),by rw[kr.out];rfl⟩
 ·have kr:=ah.mk (kp.out.1 _ h0 rfl)
  clear kp c2 c3
  generalize bC rows owners=q at *
  refine gx2 @EN @aw ?_
  exact⟨_,_,rfl,Ext.push _ _,by rw[kr.out]⟩
def lO(rows:List (List Int))(p:Int × Int):Bool:=decide (0<=p.1)&&decide (p.1<rows.length)&&inQ p.2
theorem zG(n:Int):IL (.list .tight 1 [[.v (.int .i64 n)]]) [n]:=⟨.tight,1,rfl,fun _=>rfl⟩
theorem KA(h:ae)(x y:AV)(rows:List (List Int))(owners:List Int)(hx:RL x rows)(hy:IL y owners)(a v:Int):
 ∃r h',W4.call 130 [.agg [x,y],.agg [im a,im v]] h=some (r,h')/\Ext h h'/\r=.ret (.v (.bool (lO rows (a,v)))):=by
 have bx:=ff hx hy
 have b2:(AV.agg [im a,im v]).aC=some [im a,im v]:=rfl
 have l0:ai Tryz.prog Gt ((h.push [x,y]).push [im a,im v]) 22 (.ptr (.box h.boxes.length) 0)=some x:=tY (aj (ak h [x,y]))
 have l1:=Pu (ak (h.push [x,y]) [im a,im v])
 have l2:=Pv (ak (h.push [x,y]) [im a,im v])
 have c:=vK (.list .tight 1 [[.v (.int .i64 v)]]) [v] (zG v) (by simp) ((h.push [x,y]).push [im a,im v])
 rw[show[v].all inQ=inQ v by simp] at c
 have bl:=pQ v
 have ln:=hx.cH
 clear hx hy
 unfold lO
 simp only
 refine aL rfl Tryz.func130 rfl ?_
 unfold im at *
 by_cases h1:0<=a
 ·have d1:decide (0<=a)=true:=decide_eq_true h1
  by_cases h2:a<rows.length
  ·have d2:decide (a<(rows.length:Int))=true:=decide_eq_true h2
   rw[d1,d2]
   clear h1 h2
   refine gx5 @Kt @aw @bH @zE @zF ?_
   exact⟨_,_,rfl,(Ext.push _ _).trans (Ext.push _ _),rfl⟩
  ·have d2:decide (a<(rows.length:Int))=false:=decide_eq_false h2
   rw[d1,d2]
   clear h1 h2
   refine gx5 @Kt @aw @bH @zE @zF ?_
   exact⟨_,_,rfl,(Ext.push _ _).trans (Ext.push _ _),rfl⟩
 ·have d1:decide (0<=a)=false:=decide_eq_false h1
  rw[d1]
  clear h1
  refine gx5 @Kt @aw @bH @zE @zF ?_
  exact⟨_,_,rfl,(Ext.push _ _).trans (Ext.push _ _),rfl⟩
theorem Pw(tag b:List UInt8)(k:Tok)(hb:b.length<=1099511620000)(ht:tag.length<=1099511620000):∀h,W3.call 78 [.v (.string (bs tag)),.list k 1 (u8s b)] h=some (.ret (im (mK (dV tag b):Nat)),h):=
 aF (L:=L3) (args':=[.v (.string (bs tag)),.list (di k) 1 (u8s b)]) rfl (by rw[bM,bM,au.eq_1,iQ];rfl) (by simp[bA,aV,bV,fT]) (Pc tag b _ hb ht _) rfl rfl
theorem KB(tag b:List UInt8)(k:Tok)(hb:b.length<=1099511620000)(ht:tag.length<=1099511620000):∀h,W4.call 78 [.v (.string (bs tag)),.list k 1 (u8s b)] h=some (.ret (im (mK (dV tag b):Nat)),h):=
 aF (L:=L4) (args':=[.v (.string (bs tag)),.list (di k) 1 (u8s b)]) rfl (by rw[bM,bM,au.eq_1,iQ];rfl) (by simp[bA,aV,bV,fT]) (Pw tag b _ hb ht _) rfl rfl
theorem MO{v:Vl}{r:List AV}(hv:eo v r)(hd:eD v<=16)(hl:(fB v).length<=1099511600000):∃t,∀h,W3.call 146 [.agg r] h=some (.ret (.tuple [.list t 1 (u8s (fB v)),.v (.int .i64 0)]),h):=by
 obtain⟨h1,h2⟩:=eo.hold v r hv
 obtain⟨t,hc⟩:=MD h1 hd hl
 exact⟨di t,aF (L:=L3) (args':=[.agg (bM r)]) rfl rfl (by simpa [bA,aV] using h2) (hc _) rfl (by simp[aV,bA,bV,fT])⟩
theorem ES{v:Vl}{r:List AV}(hv:eo v r)(hd:eD v<=16)(hl:(fB v).length<=1099511600000):∃t,∀h,W4.call 146 [.agg r] h=some (.ret (.tuple [.list t 1 (u8s (fB v)),.v (.int .i64 0)]),h):=by
 obtain⟨h1,h2⟩:=eo.hold v r hv
 obtain⟨t,hc⟩:=MO h1 hd hl
 exact⟨di t,aF (L:=L4) (args':=[.agg (bM r)]) rfl rfl (by simpa [bA,aV] using h2) (hc _) rfl (by simp[aV,bA,bV,fT])⟩
theorem BE:Tryz.f112.results.toList=[.cell 2 96]:=kZq
theorem RM:Tryz.f114.results.toList=[.tmp 4]:=kZq
theorem MP:Tryz.f79.results.toList=[.tmp 2]:=kZq
inductive oS:AV->Vl->Prop
 |int (n:Int) (hn:0<=n/\n<=4611686018427387903):oS (.iface 3 (.v (.int .i64 n))) (.int n)
 |text (k:Tok) (s:Nat) (b:List UInt8) (hs:b≠[]->s=1) (hb:b.length<=1099511620000):oS (.iface 28 (.list k s (u8s b))) (.text b)
 |val (v:Vl) (r:List AV) (h:eo v r):oS (.iface 96 (.agg r)) v
def jM(xs:List AV)(vs:List Vl):Prop:=xs.length=vs.length/\∀(i:Nat) x v,xs[i]?=some x->vs[i]?=some v->oS x v
theorem jM.nil:jM [] []:=⟨rfl,fun i x v h=>by simp at h⟩
theorem jM.cons{x:AV}{v:Vl}{xs:List AV}{vs:List Vl}(h:oS x v)(hs:jM xs vs):jM (x::xs) (v::vs):=by
 refine⟨by simp[hs.1],fun i y w hy hw=>?_⟩
 cases i with
 |zero=>simp at hy hw;subst hy;subst hw;exact h
 |succ i=>simp at hy hw;exact hs.2 i y w hy hw
theorem RN(x:AV):iz Tryz.prog (.iface 3 x) 3 true=some (.tuple [x,.v (.bool true)]):=kZq
theorem KC(x:AV):iz Tryz.prog (.iface 28 x) 3 true=some (.tuple [.v (.int .i64 0),.v (.bool false)]):=kZq
theorem ET(x:AV):iz Tryz.prog (.iface 28 x) 28 true=some (.tuple [x,.v (.bool true)]):=kZq
theorem Px(x:AV):iz Tryz.prog (.iface 96 x) 3 true=some (.tuple [.v (.int .i64 0),.v (.bool false)]):=kZq
theorem MQ(x:AV):iz Tryz.prog (.iface 96 x) 28 true=some (.tuple [.list .nil 0 [],.v (.bool false)]):=kZq
theorem MR(x:AV):iz Tryz.prog (.iface 96 x) 96 true=some (.tuple [x,.v (.bool true)]):=kZq
theorem KD{k:Tok}{s:Nat}{b:List UInt8}(hs:b≠[]->s=1)(h:ae):fm Tryz.prog h 28 9 (.list k s (u8s b))=some (.v (.string (bs b)),h):=by
 have h1:Tryz.prog.underlying 9=some .string:=Tryz.underlying9
 have h2:Tryz.prog.underlying 28=some (.slice 5):=Tryz.underlying28
 have h3:Tryz.prog.underlying 5=some (.int .u8):=Tryz.underlying5
 unfold fm
 simp only[h1,h2,h3,rowsOf]
 rw[if_pos (by
  by_cases hb:b=[]
  ·exact .inr (by rw[hb];rfl)
  ·exact .inl (hs hb))]
 have hbo:∀l:List UInt8,bytesOf (u8s l)=some l:=by
  intro l
  induction l with
  |nil=>rfl
  |cons a l ih=>
   show(match Go.AE.byteOf (dp a),bytesOf (u8s l) with|some b,some l=>some (b::l)|_,_=>none)=_
   rw[ih]
   simp[Go.AE.byteOf,dp]
 simp only[hbo,abJ]
 rfl
theorem blv{r:List AV}(hr:r.length=4)(hc:(AV.agg r).aC=some r):aN Tryz.prog 94 1 [(0,.agg r)]=some (.list .tight 4 [r]):=by
 have h1:Tryz.prog.underlying 94=some (.slice 96):=Tryz.underlying94
 unfold aN
 simp only[h1,tX,JJ]
 rw[if_pos ⟨by decide,rfl,by decide⟩]
 simp[my,hc,hr]
theorem RO:∃i,Tryz.prog.info? 96=some i/\i.size=4/\i.bytes<=64/\(i.zero.map fun z=>z.cells.size)=some 4:=by
 have h:(match Tryz.prog.info? 96 with|some i=>Nat.beq i.size 4&&Nat.ble i.bytes 64&&decide ((i.zero.map fun z=>z.cells.size)=some 4)|none=>false)=true:=kZq
 cases hi:Tryz.prog.info? 96 with
 |none=>rw[hi] at h;cases h
 |some i=>
  rw[hi] at h
  simp only[abr,decide_eq_true_eq] at h
  exact⟨i,rfl,Nat.eq_of_beq_eq_true h.1.1,Nat.le_of_ble_eq_true h.1.2,h.2⟩
theorem KE{H:ae}{k:Tok}{n0 sz:Nat}{es:List (List AV)}{r:List AV}(hl:es.length<1000000)(hs:es≠[]->sz=4)(h0:es=[]->sz=4∨k=.nil)(hk:bG n0 H k):
 bP Tryz.prog H #[94,94] (.list k sz es) (.list .tight 4 [r])=some (.list (.free H.tn) 4 (es++[r]),H.app k):=by
 obtain⟨i,h1,q2,q3,h4⟩:=RO
 have hb:=Nat.mul_le_mul (show es.length+1<=1000000 by omega) q3
 have:=lI (P:=Tryz.prog) (h:=H) (n0:=n0) (k:=k) (sz:=sz) (es:=es) (new:=[r]) (x:=.list .tight 4 [r]) (t1:=94) Tryz.underlying94 (.inl ⟨96,Tryz.underlying94⟩) h1 (by omega) (by rw[q2];exact h4) (by rw[q2];rfl) (by simp) (by simp;omega) (by simp;omega) (by
  rw[q2]
  by_cases he:es=[]
  ·rcases h0 he with q|q
   ·exact .inl q
   ·exact .inr ⟨he,q⟩
  ·exact .inl (hs he)) hk
 rwa [q2] at this
structure qg(h H:ae)(c:Nat)(vs:List Vl)(t:Tok)(sz:Nat)(rows:List (List AV)):Prop where
 box:H.boxes[c]?=some (cE 3 0 [] t sz rows)
 can:bG h.tn H t
 ok:aZ H=true
 ext:Ext h H
 out:h.boxes.length<=c
 rel:oP vs rows
 four:rows≠[]->sz=4
 nil:rows=[]->sz=4∨t=.nil
 fit:gH 0 0 0 rows=true
theorem xU:∀(rows:List (List AV)) (r:List AV),gH 0 0 0 rows=true->bA 0 0 0 r=true->gH 0 0 0 (rows++[r])=true
 | [],r,_,h=>by rw[ab9,gH,h];rfl
 |a::rows,r,h1,h2=>by
  rw[gH,abr] at h1
  rw[ab3,gH,h1.1,xU rows r h1.2 h2];rfl
theorem qg.push{h H:ae}{c:Nat}{vs:List Vl}{t:Tok}{sz:Nat}{rows:List (List AV)}(g:qg h H c vs t sz rows)(cs:List AV):qg h (H.push cs) c vs t sz rows:=
 ⟨aj g.box,by rw[ij];exact g.can,g.ok,g.ext.trans (.push _ _),g.out,g.rel,g.four,g.nil,g.fit⟩
theorem qg.put{h H:ae}{c:Nat}{vs:List Vl}{t:Tok}{sz:Nat}{rows:List (List AV)}(g:qg h H c vs t sz rows){v:Vl}{r:List AV}(hv:eo v r)(hf:bA 0 0 0 r=true):
 qg h ((H.app t).put c (cE 3 0 [] (.free H.tn) 4 (rows++[r]))) c (vs++[v]) (.free H.tn) 4 (rows++[r]):=by
 have hc:=(abm.1 g.box).1
 have gr:=Grown.one g.can g.ok g.ext.tn
 refine⟨aS (by rw[aT];exact hc),by rw[jd];exact gr.can,gr.ok,(gr.ext g.ext (abq _)).bZ g.out _,g.out,⟨by simp[g.rel.1],fun i w x hw hx=>?_⟩,fun _=>rfl,fun _=>.inl rfl,xU _ _ g.fit hf⟩
 rcases abL i rows.length with hlt|hge
 ·rw[ab5 hlt] at hx
  rw[ab5 (by rw[<-g.rel.1];exact hlt)] at hw
  exact g.rel.2 i w x hw hx
 ·have:=(abm.1 hx).1
  rw[abx] at this
  have he:i=rows.length:=by simp at this;omega
  subst he
  rw[adg] at hx
  rw[g.rel.1,adg] at hw
  injection hx with hx;injection hw with hw
  subst hx;subst hw
  exact hv
theorem BF{H:ae}{c:Nat}{t t2:Tok}{sz sz2:Nat}{rows rows2:List (List AV)}(hb:H.boxes[c]?=some (cE 3 0 [] t sz rows)):aA Tryz.prog H 94 (.ptr (.box c) 3) (.list t2 sz2 rows2)=some (H.put c (cE 3 0 [] t2 sz2 rows2)):=
 aW (off:=3) (cs:=cE 3 0 [] t sz rows) (xs:=[.list t2 sz2 rows2]) rfl kZq hb rfl (abq 4)
theorem RP{H:ae}:aA Tryz.prog (H.push (cE 0 0 [] .nil 0 [])) 3 (.ptr (.box H.boxes.length) 0) (.v (.int .i64 3))=some (H.push (cE 3 0 [] .nil 0 [])):=by
 rw[aW (off:=0) (cs:=cE 0 0 [] .nil 0 []) (xs:=[.v (.int .i64 3)]) rfl sz3 (ak _ _) rfl (by decide)]
 congr 1
 exact gg _ _ _
theorem RQ{H:ae}{xs:List AV}{i s:Nat}{x:AV}(h:xs[i]?=some x):ai Tryz.prog Gt H 20 (.elem s (xs.map fun a=>[a]) i 0)=some x:=by
 rw[ez kZq (row:=[x]) (by rw[abF,h];rfl)];rfl
theorem RR:bF Tryz.prog 20=some 1:=kZq
theorem oS.Py{x:AV}{v:Vl}(h:oS x v):(∃n,x=.iface 3 (.v (.int .i64 n))/\v=.int n/\0<=n/\n<=4611686018427387903)∨(∃k s b,x=.iface 28 (.list k s (u8s b))/\v=.text b/\(b≠[]->s=1)/\b.length<=1099511620000)∨∃r,x=.iface 96 (.agg r)/\eo v r:=by
 cases h with
 |int n hn=>exact .inl ⟨n,rfl,rfl,hn.1,hn.2⟩
 |text k s b hs hb=>exact .inr (.inl ⟨k,s,b,rfl,rfl,hs,hb⟩)
 |val v r h=>exact .inr (.inr ⟨r,rfl,h⟩)
theorem zH(h:ae)(hok:aZ h=true)(k:Tok)(s:Nat)(xs:List AV)(vs:List Vl)(hr:jM xs vs)(hs:xs≠[]->s=1)(hl:xs.length<=1000)(hf:∀a∈xs,aV 0 0 0 a=true):
 ∃r h',W4.call 112 [.list k s (xs.map fun a=>[a])] h=some (r,h')/\Ext h h'/\∃t sz rows,r=.ret (.agg (cE 3 0 [] t sz rows))/\eo (.list vs) (cE 3 0 [] t sz rows)/\gH 0 0 0 rows=true/\(xs.length=0->t=.nil/\sz=0/\rows=[]):=by
 have kr:=ah.mk (abp hr (abp hs hf))
 clear hr hs hf
 have z:=JJ
 have u180:=Tryz.underlying180
 have u94:=Tryz.underlying94
 have z20:=RR
 have hil:(xs.map fun a=>[a]).length=xs.length:=abu _
 have G0:qg h (h.push (cE 3 0 [] .nil 0 [])) h.boxes.length (vs.take 0) .nil 0 []:=⟨ak _ _,.inl rfl,hok,.push _ _,abq _,⟨rfl,fun i v r q=>by simp at q⟩,fun q=>absurd rfl q,fun _=>.inr rfl,rfl⟩
 refine aL rfl Tryz.func112 rfl ?_
 refine gx4 @BE @jL @RP @dB ?_
 refine Run.gen fun e0 he0 hd0 hp0 hr0=>?_
 have f2:e0.get 2=.ptr (.box h.boxes.length) 0:=by rw[he0];exact gS
 have f9:e0.get 9=.list k s (xs.map fun a=>[a]):=by rw[he0];exact gS
 have f10:e0.get 10=.v (.int .i64 (xs.length:Nat)):=by rw[he0];exact gS
 have f11:e0.get 11=.v (.int .i64 (0:Nat)):=by rw[he0];exact gR
 have fd:e0.defers=[]:=by rw[hd0];exact gS
 clear he0 hd0 hp0 hr0
 refine aD (fun m e H=>∃(i:Nat) (t:Tok) (sz:Nat) (rows:List (List AV)),i<=xs.length/\m=xs.length - i/\ah (qg h H h.boxes.length (vs.take i) t sz rows)/\ah (i=0->t=.nil/\sz=0/\rows=[])/\e.get 2=.ptr (.box h.boxes.length) 0/\e.get 9=.list k s (xs.map fun a=>[a])/\e.get 10=.v (.int .i64 (xs.length:Nat))/\e.get 11=.v (.int .i64 (i:Nat))/\e.defers=[]) ?_ xs.length _ _ ?_
 rotate_left 1
 ·exact⟨0,.nil,0,[],abG _,rfl,⟨G0⟩,⟨fun _=>⟨rfl,rfl,rfl⟩⟩,f2,f9,f10,f11,fd⟩
 clear f2 f9 f10 f11 fd G0
 rintro m e H ⟨i,t,sz,rows,hi,rfl,kG,kN,g2,g9,g10,g11,hd⟩
 by_cases hlt:i<xs.length
 ·have hs1:s=1:=kr.out.2.1 (by intro q;rw[q] at hlt;simp at hlt)
  subst hs1
  obtain⟨x,hx⟩:∃x,xs[i]?=some x:=⟨_,abo hlt⟩
  obtain⟨v,hv⟩:∃v,vs[i]?=some v:=⟨_,abo (by have:=kr.out.1.1;omega)⟩
  have hxv:=kr.out.1.2 i x v hx hv
  have hfx:=kr.out.2.2 x (abz hx)
  have ld:=RQ (H:=H) (s:=1) hx
  have kst:=ah.mk (a9 hv)
  have hrl:rows.length<1000000:=by
   have:=kG.out.rel.1
   rw[abI] at this;omega
  have hltI:(i:Int)<(xs.length:Int):=by omega
  clear hx hv
  rcases hxv.Py with⟨n,rfl,rfl,hn1,hn2⟩|⟨kb,sb,b,rfl,rfl,hb1,hb2⟩|⟨r,rfl,hvr⟩
  ·have hvr:eo (.int n) (cE 1 n [] .nil 0 []):=.int n ⟨hn1,hn2⟩
   have kG2:=ah.mk (kG.out.put hvr rfl)
   have l3:=vy kG.out.box
   have ap:=KE (r:=cE 1 n [] .nil 0 []) hrl kG.out.four kG.out.nil kG.out.can
   have bl:=blv (r:=cE 1 n [] .nil 0 []) rfl rfl
   have st:=BF (H:=H.app t) (t2:=.free H.tn) (sz2:=4) (rows2:=rows++[cE 1 n [] .nil 0 []]) (by rw[aT];exact kG.out.box)
   rw[<-kst.out] at kG2
   clear hvr hn1 hn2 hxv hfx
   refine gx5 @BE @jL @al @RN @bdi ?_
   exact⟨xs.length - (i+1),by omega,i+1,_,_,_,by omega,rfl,kG2,⟨fun q=>absurd q (afa _)⟩,by simp⟩
  ·have hvr:eo (.text b) (cE 2 0 b .nil 0 []):=.text b hb2
   have kG2:=ah.mk (kG.out.put hvr rfl)
   have l3:=vy kG.out.box
   have ap:=KE (r:=cE 2 0 b .nil 0 []) hrl kG.out.four kG.out.nil kG.out.can
   have bl:=blv (r:=cE 2 0 b .nil 0 []) rfl rfl
   have cv:=KD (k:=kb) hb1
   have st:=BF (H:=H.app t) (t2:=.free H.tn) (sz2:=4) (rows2:=rows++[cE 2 0 b .nil 0 []]) (by rw[aT];exact kG.out.box)
   rw[<-kst.out] at kG2
   clear hvr hb1 hb2 hxv hfx
   refine gx6 @BE @jL @al @KC @ET @bdt ?_
   exact⟨xs.length - (i+1),by omega,i+1,_,_,_,by omega,rfl,kG2,⟨fun q=>absurd q (afa _)⟩,by simp⟩
  ·have hfr:bA 0 0 0 r=true:=by simpa [aV] using hfx
   have kG1:=kG.out.push r
   have kG2:=ah.mk (kG1.put hvr hfr)
   have l3:=vy kG1.box
   have l4:=ldv hvr.len (ak H r)
   have ap:=KE (r:=r) hrl kG1.four kG1.nil kG1.can
   have bl:=blv (r:=r) hvr.len hvr.cells
   have st0:=stv (H:=H) hvr
   have st:=BF (H:=(H.push r).app t) (t2:=.free (H.push r).tn) (sz2:=4) (rows2:=rows++[r]) (by rw[aT];exact kG1.box)
   rw[<-kst.out] at kG2
   clear hvr hxv kG1 hfx hfr
   refine gx6 @BE @jL @al @Px @MQ @MR ?_
   exact⟨xs.length - (i+1),by omega,i+1,_,_,_,by omega,rfl,kG2,⟨fun q=>absurd q (afa _)⟩,by simp⟩
 ·have hie:i=xs.length:=by omega
  subst hie
  have hG:=kG.out
  rw[abD (by rw[kr.out.1.1];exact abq _)] at hG
  have hv:eo (.list vs) (cE 3 0 [] t sz rows):=.list vs t sz rows hG.rel.1 hG.four (by have:=hG.rel.1;have:=kr.out.1.1;omega) hG.rel.2
  have ld:=ldv hv.len hG.box
  have st:aA Tryz.prog H 96 (.ptr (.box h.boxes.length) 0) (.agg (cE 3 0 [] t sz rows))=some H:=by
   rw[aW dB tX hG.box rfl (abq 4),jc rfl]
   rw[ec hG.box]
  have kv:=ah.mk (abp hv (abp hG.ext hG.fit))
  clear hv hG
  repeat' (first|simp(maxSteps:=999999)(disch:=first|exact dZ|fail)only[gW,reduceIte,abn,gBQ,BE, *]|refine dX ?_ ?_<;>(intro _;try omega))
  exact⟨_,_,rfl,kv.out.2.1,_,_,_,rfl,kv.out.1,kv.out.2.2,kN.out⟩
theorem bd3:fj Tryz.prog 96 [(0,.v (.int .i64 3))]=some (.agg (cE 3 0 [] .nil 0 [])):=kZq
inductive j8:AV->Vl->Prop
 |int (n:Int) (hn:0<=n/\n<=4611686018427387903):j8 (.iface 3 (.v (.int .i64 n))) (.int n)
 |text (k:Tok) (s:Nat) (b:List UInt8) (hs:b≠[]->s=1) (hb:b.length<=1099511620000):j8 (.iface 28 (.list k s (u8s b))) (.text b)
def mq(xs:List AV)(vs:List Vl):Prop:=xs.length=vs.length/\∀(i:Nat) x v,xs[i]?=some x->vs[i]?=some v->j8 x v
theorem mq.nil:mq [] []:=⟨rfl,fun i x v h=>by simp at h⟩
theorem mq.cons{x:AV}{v:Vl}{xs:List AV}{vs:List Vl}(h:j8 x v)(hs:mq xs vs):mq (x::xs) (v::vs):=by
 refine⟨by simp[hs.1],fun i y w hy hw=>?_⟩
 cases i with
 |zero=>simp at hy hw;subst hy;subst hw;exact h
 |succ i=>simp at hy hw;exact hs.2 i y w hy hw
theorem j8.Pz{x:AV}{v:Vl}(h:j8 x v):(∃n,x=.iface 3 (.v (.int .i64 n))/\v=.int n/\0<=n/\n<=4611686018427387903)∨(∃k s b,x=.iface 28 (.list k s (u8s b))/\v=.text b/\(b≠[]->s=1)/\b.length<=1099511620000):=by
 cases h with
 |int n hn=>exact .inl ⟨n,rfl,rfl,hn.1,hn.2⟩
 |text k s b hs hb=>exact .inr ⟨k,s,b,rfl,rfl,hs,hb⟩
theorem PA(h:ae)(hok:aZ h=true)(k:Tok)(s:Nat)(xs:List AV)(vs:List Vl)(hr:mq xs vs)(hs:xs≠[]->s=1)(hl:xs.length<=1000)(hdp:eD (.list vs)<=16)(hen:(fB (.list vs)).length<=1099511600000):
 ∃r h',W4.call 79 [.list k s (xs.map fun a=>[a])] h=some (r,h')/\∃t,r=.ret (.list t 1 (u8s (fB (.list vs)))):=by
 have kr:=ah.mk (abp hr (abp hs (abp hdp hen)))
 clear hr hs hdp hen
 have z:=JJ
 have u180:=Tryz.underlying180
 have u94:=Tryz.underlying94
 have z20:=RR
 have hil:(xs.map fun a=>[a]).length=xs.length:=abu _
 have G0:qg h (h.push (cE 3 0 [] .nil 0 [])) h.boxes.length (vs.take 0) .nil 0 []:=⟨ak _ _,.inl rfl,hok,.push _ _,abq _,⟨rfl,fun i v r q=>by simp at q⟩,fun q=>absurd rfl q,fun _=>.inr rfl,rfl⟩
 refine aL rfl Tryz.func79 rfl ?_
 refine gx5 @MP @jL @bd3 @S0 @dB ?_
 refine Run.gen fun e0 he0 hd0 hp0 hr0=>?_
 have f2:e0.get 3=.ptr (.box h.boxes.length) 0:=by rw[he0];exact gS
 have f9:e0.get 11=.list k s (xs.map fun a=>[a]):=by rw[he0];exact gS
 have f10:e0.get 12=.v (.int .i64 (xs.length:Nat)):=by rw[he0];exact gS
 have f11:e0.get 13=.v (.int .i64 (0:Nat)):=by rw[he0];exact gR
 have fd:e0.defers=[]:=by rw[hd0];exact gS
 clear he0 hd0 hp0 hr0
 refine aD (fun m e H=>∃(i:Nat) (t:Tok) (sz:Nat) (rows:List (List AV)),i<=xs.length/\m=xs.length - i/\ah (qg h H h.boxes.length (vs.take i) t sz rows)/\e.get 3=.ptr (.box h.boxes.length) 0/\e.get 11=.list k s (xs.map fun a=>[a])/\e.get 12=.v (.int .i64 (xs.length:Nat))/\e.get 13=.v (.int .i64 (i:Nat))/\e.defers=[]) ?_ xs.length _ _ ?_
 rotate_left 1
 ·exact⟨0,.nil,0,[],abG _,rfl,⟨G0⟩,f2,f9,f10,f11,fd⟩
 clear f2 f9 f10 f11 fd G0
 rintro m e H ⟨i,t,sz,rows,hi,rfl,kG,g3,g11,g12,g13,hd⟩
 by_cases hlt:i<xs.length
 ·have hs1:s=1:=kr.out.2.1 (by intro q;rw[q] at hlt;simp at hlt)
  subst hs1
  obtain⟨x,hx⟩:∃x,xs[i]?=some x:=⟨_,abo hlt⟩
  obtain⟨v,hv⟩:∃v,vs[i]?=some v:=⟨_,abo (by have:=kr.out.1.1;omega)⟩
  have hxv:=kr.out.1.2 i x v hx hv
  have ld:=RQ (H:=H) (s:=1) hx
  have kst:=ah.mk (a9 hv)
  have hrl:rows.length<1000000:=by
   have:=kG.out.rel.1
   rw[abI] at this;omega
  have hltI:(i:Int)<(xs.length:Int):=by omega
  clear hx hv
  rcases hxv.Pz with⟨n,rfl,rfl,hn1,hn2⟩|⟨kb,sb,b,rfl,rfl,hb1,hb2⟩
  ·have hvr:eo (.int n) (cE 1 n [] .nil 0 []):=.int n ⟨hn1,hn2⟩
   have kG2:=ah.mk (kG.out.put hvr rfl)
   have l3:=vy kG.out.box
   have ap:=KE (r:=cE 1 n [] .nil 0 []) hrl kG.out.four kG.out.nil kG.out.can
   have bl:=blv (r:=cE 1 n [] .nil 0 []) rfl rfl
   have st:=BF (H:=H.app t) (t2:=.free H.tn) (sz2:=4) (rows2:=rows++[cE 1 n [] .nil 0 []]) (by rw[aT];exact kG.out.box)
   rw[<-kst.out] at kG2
   clear hvr hn1 hn2 hxv
   refine gx5 @MP @jL @al @RN @bdi ?_
   exact⟨xs.length - (i+1),by omega,i+1,_,_,_,by omega,rfl,kG2,by simp⟩
  ·have hvr:eo (.text b) (cE 2 0 b .nil 0 []):=.text b hb2
   have kG2:=ah.mk (kG.out.put hvr rfl)
   have l3:=vy kG.out.box
   have ap:=KE (r:=cE 2 0 b .nil 0 []) hrl kG.out.four kG.out.nil kG.out.can
   have bl:=blv (r:=cE 2 0 b .nil 0 []) rfl rfl
   have cv:=KD (k:=kb) hb1
   have st:=BF (H:=H.app t) (t2:=.free H.tn) (sz2:=4) (rows2:=rows++[cE 2 0 b .nil 0 []]) (by rw[aT];exact kG.out.box)
   rw[<-kst.out] at kG2
   clear hvr hb1 hb2 hxv
   refine gx6 @MP @jL @al @KC @ET @bdt ?_
   exact⟨xs.length - (i+1),by omega,i+1,_,_,_,by omega,rfl,kG2,by simp⟩
 ·have hie:i=xs.length:=by omega
  subst hie
  have hG:=kG.out
  rw[abD (by rw[kr.out.1.1];exact abq _)] at hG
  have hv:eo (.list vs) (cE 3 0 [] t sz rows):=.list vs t sz rows hG.rel.1 hG.four (by have:=hG.rel.1;have:=kr.out.1.1;omega) hG.rel.2
  have ld:=ldv hv.len hG.box
  obtain⟨te,ce⟩:=ES hv kr.out.2.2.1 kr.out.2.2.2
  clear hv hG
  repeat' (first|simp(maxSteps:=999999)(disch:=first|exact dZ|fail)only[gW,reduceIte,abn,gBQ,MP, *]|refine dX ?_ ?_<;>(intro _;try omega))
  exact⟨_,_,rfl,_,rfl⟩
theorem MS(h:ae)(hok:aZ h=true)(tag:List UInt8)(k:Tok)(s:Nat)(xs:List AV)(vs:List Vl)(hr:jM xs vs)(hs:xs≠[]->s=1)(hl:xs.length<=1000)(hf:∀a∈xs,aV 0 0 0 a=true)(ht:tag.length<=1099511620000)(hdp:eD (.list vs)<=16)(hen:(fB (.list vs)).length<=1099511600000):
 ∃r h',W4.call 114 [.v (.string (bs tag)),.list k s (xs.map fun a=>[a])] h=some (r,h')/\r=.ret (im ((mL tag (.list vs):Nat):Int)):=by
 obtain⟨_,h1,c1,-,t,sz,rows,rfl,hv,-,-⟩:=zH h hok k s xs vs hr hs hl hf
 obtain⟨te,ce⟩:=ES hv hdp hen
 have cg:=KB tag (fB (.list vs)) te (by omega) ht
 have e:mK (dV tag (fB (.list vs)))=mL tag (.list vs):=rfl
 rw[e] at cg
 generalize mL tag (.list vs)=n at *
 unfold im at *
 clear hr hs hl hv hf e
 refine aL rfl Tryz.func114 rfl ?_
 refine gx1 @RM ?_
 exact⟨_,_,rfl,rfl⟩
theorem KF(n:Nat)(h0:0<n)(hn:n<=1099511627776)(H:ae):W4.call 158 [.list .nil 0 [],.v (.int .i64 (n:Nat))] H=some (.ret (.arr H.boxes.length 0 0 n),H.push (abt n [im 0]).flatten):=by
 have u23:=Tryz.underlying23
 have a:=SS (H:=H) h0 hn
 have e1:IntKind.i64.wrap ((0:Int) - 0)=0:=by rfl
 have e2:IntKind.i64.wrap (((n:Nat):Int) - 0)=((n:Nat):Int):=by rw[aeE,bT (by omega) (by omega)]
 have s2:ck Tryz.prog 23 (.arr H.boxes.length 0 n n) none (some (.v (.int .i64 (0:Nat)))) none=some (.arr H.boxes.length 0 0 n):=rn u23 sz3 (by decide) (by decide) (by omega) h0
 have s2:ck Tryz.prog 23 (.arr H.boxes.length 0 n n) none (some (.v (.int .i64 0))) none=some (.arr H.boxes.length 0 0 n):=s2
 have hlt:(0:Int)<(n:Nat):=by omega
 refine ar rfl Tryz.func158 rfl ?_
 repeat' (first|simp(maxSteps:=999999)(disch:=first|exact dZ|fail)only[gW,reduceIte,abn,gBQ,NA,u6,NB,QH,ab7,acT,aeE, *]|(refine dX ?_ ?_<;>(intro _;try omega))|refine aP kZq ?_)
theorem KG(H:ae):W4.call 158 [.list .nil 0 [],.v (.int .i64 (0:Nat))] H=some (.ret (.list .nil 0 []),H):=by
 have u23:=Tryz.underlying23
 refine ar rfl Tryz.func158 rfl ?_
 have e1:IntKind.i64.wrap ((0:Int) - 0)=0:=by rfl
 have e2:IntKind.i64.wrap (((0:Nat):Int) - 0)=0:=by rfl
 repeat' (first|simp(maxSteps:=999999)(disch:=first|exact dZ|fail)only[gW,reduceIte,abn,gBQ,NA,u6,NB,QH,ab7,acT,aeE, *]|(refine dX ?_ ?_<;>(intro _;try omega))|refine aP kZq ?_)
theorem DQ(k:Tok)(xs:List AV)(rss:List (List (List AV)))(hl:xs.length=rss.length)(H:ae)(hs:∀(i:Nat) x rs,xs[i]?=some x->rss[i]?=some rs->b9 1 H x rs)(hb:rss.flatten.length<=1099511627776)(hxl:xs.length<=1000):
 ∃r H',W4.call 109 [.list k 1 (xs.map fun x=>[x])] H=some (r,H')/\∃y,r=.ret y/\Ext H H'/\b9 1 H' y rss.flatten:=by
 have u23:=Tryz.underlying23;have u22:=Tryz.underlying22
 have aE:=QI;have sE:=jC
 have hr:∀(i:Nat) x,xs[i]?=some x->(xs.map fun x=>[x])[i]?=some [x]:=fun i x hx=>by rw[abF,hx];rfl
 have hle:∀i,(rss.take i).flatten.length<=1099511627776:=fun i=>by
  refine Nat.le_trans ?_ hb
  conv=>rhs;rw[<-acN i rss,acr,abx]
  omega
 have hstep:∀(i:Nat) rs,rss[i]?=some rs->(rss.take (i+1)).flatten=(rss.take i).flatten++rs:=fun i rs hi=>by rw[a9 hi,acr];simp
 have kS:=ah.mk hs
 have kl:=ah.mk hl
 have kr:=ah.mk hr
 have kst:=ah.mk hstep
 have kle:=ah.mk hle
 have hml:(xs.map fun x=>[x]).length=xs.length:=by simp
 clear hs hr hstep hle hl
 generalize hM:(xs.map fun x=>[x])=M at *
 refine aL rfl Tryz.func109 rfl ?_
 refine gx1 @tD ?_
 refine aD (fun m e h'=>∃i:Nat,i<=xs.length/\m=xs.length - i/\e.get 0=.list k 1 M/\e.get 9=.list k 1 M/\e.get 10=.v (.int .i64 (xs.length:Nat))/\e.get 11=.v (.int .i64 i)/\e.get 3=.v (.int .i64 ((rss.take i).flatten.length:Nat))/\e.get 2=.list .nil 0 []/\e.defers=[]/\h'=H) ?_ xs.length _ _ ?_
 rotate_left 1
 ·refine⟨0,abG _,rfl,?_,?_,?_,?_,?_,?_,?_,rfl⟩<;>(first|assumption|(simp only[gW,reduceIte,abn,gBQ,hml]<;>rfl))
 rintro m e h' ⟨i,hi,rfl,g0,g9,g10,g11,g3,g2,hd,rfl⟩
 by_cases hlt:i<xs.length
 ·obtain⟨x,hx⟩:∃x,xs[i]?=some x:=⟨_,abo hlt⟩
  obtain⟨rs,hrs⟩:∃rs,rss[i]?=some rs:=⟨_,abo (by have:=kl.out;omega)⟩
  have s1:=kS.out i x rs hx hrs
  have ls:=s1.len u23
  have hmi:=kr.out i x hx
  have hlm:(i:Int)<(M.length:Int):=by omega
  have q:=kst.out i rs hrs
  have q1:=kle.out (i+1)
  rw[q,abx] at q1
  have ksum:=ah.mk (show(rss.take (i+1)).flatten.length=(rss.take i).flatten.length+rs.length by rw[q,abx])
  generalize (rss.take i).flatten.length=n1 at *
  have e1:IntKind.i64.wrap (((n1:Nat):Int)+((rs.length:Nat):Int))=((n1+rs.length:Nat):Int):=by rw[bT (by omega) (by omega)];omega
  have nn:¬(((n1+rs.length:Nat):Int)<0):=by omega
  have ld:ai Tryz.prog Gt h' 23 (.elem 1 M i 0)=some x:=by rw[ez aE hmi];rfl
  clear q q1 s1
  repeat' (first|simp(maxSteps:=999999)(disch:=first|exact dZ|fail)only[gW,reduceIte,abn,gBQ,tD,al, *]|refine dX ?_ ?_<;>(intro _;try omega))
  exact⟨xs.length - (i+1),by omega,i+1,by omega,rfl,by trivial,by trivial,by trivial,by simp,by rw[ksum.out],by trivial,by trivial,by trivial⟩
 have:i=xs.length:=by omega
 subst this
 rw[show rss.take xs.length=rss by rw[kl.out];exact abU] at g3
 have hn:=kle.out xs.length
 rw[show rss.take xs.length=rss by rw[kl.out];exact abU] at hn
 generalize hN:rss.flatten.length=n at *
 rcases Nat.eq_zero_or_pos n with h0|h0
 ·subst h0
  have gn:=KG h'
  have hnil:rss.flatten=[]:=List.eq_nil_of_length_eq_zero hN
  repeat' (first|simp(maxSteps:=999999)(disch:=first|exact dZ|fail)only[gW,reduceIte,abn,gBQ,tD, *]|refine dX ?_ ?_<;>(intro _;try omega))
  refine aD (fun m e H1=>∃i:Nat,i<=xs.length/\m=xs.length - i/\e.get 25=.list k 1 M/\e.get 26=.v (.int .i64 (xs.length:Nat))/\e.get 27=.v (.int .i64 i)/\e.get 6=.list .nil 0 []/\e.defers=[]/\H1=h') ?_ xs.length _ _ ?_
  rotate_left 1
  ·refine⟨0,abG _,rfl,?_,?_,?_,?_,?_,rfl⟩<;>(first|assumption|(simp only[gW,reduceIte,abn,gBQ,hml]<;>rfl))
  clear g0 g9 g10 g11 g3 g2 hd gn
  rintro m e H1 ⟨i,hi,rfl,g25,g26,g27,g6,hd,rfl⟩
  by_cases hlt:i<xs.length
  ·obtain⟨x,hx⟩:∃x,xs[i]?=some x:=⟨_,abo hlt⟩
   obtain⟨rs,hrs⟩:∃rs,rss[i]?=some rs:=⟨_,abo (by have:=kl.out;omega)⟩
   have s1:=kS.out i x rs hx hrs
   have hrs0:rs=[]:=by
    have:=abz hrs
    cases rs with
    |nil=>rfl
    |cons a l=>exact absurd (aeG.2 ⟨_,this,abM⟩) (by rw[hnil];exact List.not_mem_nil)
   subst hrs0
   have an:=SV s1
   have hmi:=kr.out i x hx
   have hlm:(i:Int)<(M.length:Int):=by omega
   have ld:ai Tryz.prog Gt H1 23 (.elem 1 M i 0)=some x:=by rw[ez aE hmi];rfl
   clear s1
   repeat' (first|simp(maxSteps:=999999)(disch:=first|exact dZ|fail)only[gW,reduceIte,abn,gBQ,tD,al, *]|refine dX ?_ ?_<;>(intro _;try omega))
   exact⟨xs.length - (i+1),by omega,i+1,by omega,rfl,by trivial,by trivial,by simp,by trivial,by trivial,by trivial⟩
  ·have:i=xs.length:=by omega
   subst this
   refine gx1 @tD ?_
   exact⟨_,_,rfl,_,rfl,Ext.refl _,by(try rw[hnil]);exact b9.list (fun r hr=>by cases hr) (fun q=>absurd rfl q)⟩
 ·have gn:=KF n h0 hn h'
  repeat' (first|simp(maxSteps:=999999)(disch:=first|exact dZ|fail)only[gW,reduceIte,abn,gBQ,tD, *]|refine dX ?_ ?_<;>(intro _;try omega))
  rw[vm]
  have hr1:∀(i:Nat) rs,rss[i]?=some rs->∀r∈rs,r.length=1:=fun i rs hi=>by
   obtain⟨x,hx⟩:∃x,xs[i]?=some x:=⟨_,abo (by rw[kl.out];exact(abm.1 hi).1)⟩
   exact(kS.out i x rs hx hi).1
  have hr2:∀i,∀r∈(rss.take i).flatten,r.length=1:=fun i r hr=>by
   obtain⟨rs,h1,h2⟩:=aeG.1 hr
   obtain⟨j,hj⟩:=List.mem_iff_getElem?.1 (acq h1)
   exact hr1 j rs hj r h2
  have hfl:∀i,(rss.take i).flatten.flatten.length=(rss.take i).flatten.length:=fun i=>by rw[a8 (hr2 i),acM]
  have hmono:∀i,(rss.take i).flatten.length<=n:=fun i=>by
   rw[<-hN]
   conv=>rhs;rw[<-acN i rss,acr,abx]
   omega
  have kfl:=ah.mk hfl
  have kmo:=ah.mk hmono
  have kr2:=ah.mk hr2
  clear hr1 hfl hmono hr2 gn
  refine aD (fun m e H1=>∃i:Nat,i<=xs.length/\m=xs.length - i/\e.get 25=.list k 1 M/\e.get 26=.v (.int .i64 (xs.length:Nat))/\e.get 27=.v (.int .i64 i)/\e.get 6=.arr h'.boxes.length 0 (rss.take i).flatten.length n/\e.defers=[]/\H1.boxes[h'.boxes.length]?=some ((rss.take i).flatten.flatten++abt (n - (rss.take i).flatten.length) (im 0))/\Ext h' H1) ?_ xs.length _ _ ?_
  rotate_left 1
  ·refine⟨0,abG _,rfl,?_,?_,?_,?_,?_,?_,Ext.push _ _⟩<;>(first|assumption|exact ak _ _|(simp only[gW,reduceIte,abn,gBQ,hml]<;>rfl))
  clear g0 g9 g10 g11 g3 g2 hd
  rintro m e H1 ⟨i,hi,rfl,g25,g26,g27,g6,hd,hB,hX⟩
  by_cases hlt:i<xs.length
  ·obtain⟨x,hx⟩:∃x,xs[i]?=some x:=⟨_,abo hlt⟩
   obtain⟨rs,hrs⟩:∃rs,rss[i]?=some rs:=⟨_,abo (by have:=kl.out;omega)⟩
   have s1:=(kS.out i x rs hx hrs).ext hX
   have q:=kst.out i rs hrs
   have m1:=kmo.out (i+1)
   have f0:=kfl.out i
   have hsum:(rss.take (i+1)).flatten.length=(rss.take i).flatten.length+rs.length:=by rw[q,abx]
   rw[hsum] at m1
   have hrsl:rs.flatten.length=rs.length:=by rw[a8 s1.1,acM]
   have ap:=SU s1 hB m1 (by rw[abx,List.length_replicate,f0];omega)
   have hsp:bI ((rss.take i).flatten.flatten++abt (n - (rss.take i).flatten.length) (im 0)) (rss.take i).flatten.length rs.flatten=(rss.take (i+1)).flatten.flatten++abt (n - (rss.take (i+1)).flatten.length) (im 0):=by
    unfold bI
    rw[List.take_left' f0,List.drop_append,acm (by rw[f0];omega),ab9,f0,List.drop_replicate,q,acr,abx,hrsl]
    congr 2
    omega
   rw[hsp] at ap
   have hmi:=kr.out i x hx
   have hlm:(i:Int)<(M.length:Int):=by omega
   have ld:ai Tryz.prog Gt H1 23 (.elem 1 M i 0)=some x:=by rw[ez aE hmi];rfl
   have kX:=ah.mk hX
   have hlb:=(abm.1 hB).1
   have ks:=ah.mk hsum
   clear s1 hX hB hsp q f0 hsum
   repeat' (first|simp(maxSteps:=999999)(disch:=first|exact dZ|fail)only[gW,reduceIte,abn,gBQ,tD,al, *]|refine dX ?_ ?_<;>(intro _;try omega))
   refine⟨xs.length - (i+1),by omega,i+1,by omega,rfl,by trivial,by trivial,by simp,by rw[ks.out],by trivial,?_,kX.out.bZ (abq _) _⟩
   exact aS hlb
  ·have:i=xs.length:=by omega
   subst this
   have ht:rss.take xs.length=rss:=by rw[kl.out];exact abU
   have f0:=kfl.out xs.length
   have hr2:=kr2.out xs.length
   rw[ht] at hB g6 f0 hr2
   rw[hN] at hB g6
   rw[Nat.sub_self,List.replicate_zero,List.append_nil] at hB
   have kB:=ah.mk hB
   have kX:=ah.mk hX
   clear hB hX
   refine gx1 @tD ?_
   exact⟨_,_,rfl,_,rfl,kX.out,b9.box hr2 hN.symm kB.out⟩
def L5:List FuncId:=[28,29,30,42,46,57,59,65,66,69,76,77,78,79,82,92,93,94,97,107,108,109,110,112,115,118,119,120,121,123,129,130,132,135,136,137,138,140,146,172,194,195,196,201]
noncomputable def sQ:FuncId->Option (List AV->ae->Option (AV × ae)):=jE 4 W4 L5 [114]
noncomputable abbrev W5:=whole Tryz.prog Gt sQ
theorem gM:jo sQ L5:=fun g hg=>⟨xA W4 g,by
 unfold sQ jE
 rw[if_pos (by simpa using hg)]
 rfl⟩
section
variable (a b n x:Int)
theorem MT:∀h,W5.call 28 [im a,im b] h=some (.ret (im (cN a b)),h):=dm (L:=L5) rfl rfl rfl (RD a b _) rfl rfl
theorem KH:∀h,W5.call 29 [im a,im b] h=some (.ret (im (cq a b)),h):=dm (L:=L5) rfl rfl rfl (RE a b _) rfl rfl
theorem vN:∀h,W5.call 46 [im x] h=some (.ret (.v (.bool (aX x))),h):=dm (L:=L5) rfl rfl rfl (Kp x _) rfl rfl
theorem xV:∀h,W5.call 69 [im a,im b] h=some (.ret (.tuple [im (pO a b),im (mP a b)]),h):=dm (L:=L5) rfl rfl rfl (RF a b _) rfl rfl
theorem BG:∀h,W5.call 30 [im a,im n] h=some (.ret (.tuple [im (iL a n),im (lG a)]),h):=dm (L:=L5) rfl rfl rfl (Kq a n _) rfl rfl
theorem Wu:∀h,W5.call 94 [im x] h=some (.ret (.v (.bool (aX x))),h):=dm (L:=L5) rfl rfl rfl (Wr x _) rfl rfl
theorem Xi:∀h,W5.call 140 [im a,im b] h=some (.ret (.tuple [im (pO a b),im (mP a b)]),h):=dm (L:=L5) rfl rfl rfl (Xg a b _) rfl rfl
theorem Xj:∀h,W5.call 132 [im a,im n] h=some (.ret (.tuple [im (iL a n),im (lG a)]),h):=dm (L:=L5) rfl rfl rfl (Xh a n _) rfl rfl
theorem Yc:∀h,W5.call 120 [im n] h=some (.ret (.agg (cE 1 n [] .nil 0 [])),h):=dm (L:=L5) rfl rfl rfl (Ya n _) rfl rfl
end
theorem mV(x n:Int):∀h,W5.call 57 [im x,im n] h=some (.ret (im (iL x n)),h):=dm (L:=L5) rfl rfl rfl (ML x n _) rfl rfl
theorem xW(x n:Int):∀h,W5.call 77 [im x,im n] h=some (.ret (im (iL x n)),h):=dm (L:=L5) rfl rfl rfl (MM x n _) rfl rfl
theorem fA{x y:AV}{rows:List (List Int)}{owners:List Int}(hx:RL x rows)(hy:IL y owners):RL (au x) rows/\IL (au y) owners/\aV 0 0 0 (au x)=true/\aV 0 0 0 (au y)=true:=
 ⟨hx.xS.1,hy.hold.1,hx.xS.2,hy.hold.2⟩
theorem KI(x y:AV)(rows:List (List Int))(owners:List Int)(hx:RL x rows)(hy:IL y owners):∀h,W5.call 97 [.agg [x,y]] h=some (.ret (im (bC rows owners)),h):=by
 obtain⟨h1,h2,h3,h4⟩:=fA hx hy
 exact dm (L:=L5) (args':=[.agg [au x,au y]]) rfl rfl (by simp[bA,aV,h3,h4]) (Kz (au x) (au y) rows owners h1 h2 _) rfl rfl
theorem zI(x y:AV)(rows:List (List Int))(owners:List Int)(hx:RL x rows)(hy:IL y owners):∀h,W5.call 108 [.agg [x,y]] h=some (.ret (im (aK rows:Nat)),h):=by
 obtain⟨h1,h2,h3,h4⟩:=fA hx hy
 obtain⟨h',c,-⟩:=vL ⟨[],[],0,[]⟩ (au x) (au y) rows owners h1 h2
 exact dm (L:=L5) (args':=[.agg [au x,au y]]) rfl rfl (by simp[bA,aV,h3,h4]) c rfl rfl
theorem tM(x y:AV)(rows:List (List Int))(owners:List Int)(hx:RL x rows)(hy:IL y owners):∀h,W5.call 42 [.agg [x,y]] h=some (.ret (im (aK rows:Nat)),h):=by
 obtain⟨h1,h2,h3,h4⟩:=fA hx hy
 obtain⟨h',c,-⟩:=Hl ⟨[],[],0,[]⟩ (au x) (au y) rows owners h1 h2
 exact dm (L:=L5) (args':=[.agg [au x,au y]]) rfl rfl (by simp[bA,aV,h3,h4]) c rfl rfl
theorem MU(x y:AV)(rows:List (List Int))(owners:List Int)(hx:RL x rows)(hy:IL y owners)(hl:rows.length<=1000000):∀h,W5.call 115 [.agg [x,y]] h=some (.ret (im (bC rows owners)),h):=by
 obtain⟨h1,h2,h3,h4⟩:=fA hx hy
 obtain⟨r,h',c,-,rfl⟩:=Hj ⟨[],[],0,[]⟩ (au x) (au y) rows owners h1 h2 hl
 exact dm (L:=L5) (args':=[.agg [au x,au y]]) rfl rfl (by simp[bA,aV,h3,h4]) c rfl rfl
theorem rQ(x:AV)(l:List Int)(hx:IL x l)(hl:l.length<=1000000):∀h,W5.call 107 [x] h=some (.ret (.v (.bool (l.all inQ))),h):=by
 obtain⟨h1,h2⟩:=hx.hold
 exact dm (L:=L5) (args':=[au x]) rfl rfl (by simp[bA,h2]) (vK (au x) l h1 hl _) rfl rfl
theorem U3(x:AV)(l:List Int)(hx:IL x l)(hl:l.length<=9223372036854775807):∀h,W5.call 92 [x] h=some (.ret (.v (.bool (l.all inQ))),h):=by
 obtain⟨h1,h2⟩:=hx.hold
 obtain⟨r,h',c,-,rfl⟩:=VC ⟨[],[],0,[]⟩ (au x) l h1 hl
 exact dm (L:=L5) (args':=[au x]) rfl rfl (by simp[bA,h2]) c rfl rfl
theorem Vh(x:AV)(l:List Int)(hx:IL x l)(hl:l.length<=9223372036854775807):∀h,W5.call 93 [x] h=some (.ret (.v (.bool (cS (-1) l))),h):=by
 obtain⟨h1,h2⟩:=hx.hold
 obtain⟨r,h',c,-,rfl⟩:=V0 ⟨[],[],0,[]⟩ (au x) l h1 hl
 exact dm (L:=L5) (args':=[au x]) rfl rfl (by simp[bA,h2]) c rfl rfl
theorem DR(x y:AV)(a b:List Int)(hx:IL x a)(hy:IL y b)(hl:a.length<=1000000)(hab:a.length<=b.length):∀h,W5.call 110 [x,y] h=some (.ret (im (oa a b)),h):=by
 obtain⟨h1,h2⟩:=hx.hold
 obtain⟨h3,h4⟩:=hy.hold
 obtain⟨h',c,-⟩:=Kv ⟨[],[],0,[]⟩ (au x) (au y) a b h1 h3 hl hab
 exact dm (L:=L5) (args':=[au x,au y]) rfl rfl (by simp[bA,h2,h4]) c rfl rfl
theorem tN(x y z:AV)(rows:List (List Int))(owners aa:List Int)(hx:RL x rows)(hy:IL y owners)(hz:IL z aa)(hl:aa.length<=1000000):∀h,W5.call 129 [.agg [x,y],z] h=some (.ret (im (dx rows owners aa)),h):=by
 obtain⟨h1,h2,h3,h4⟩:=fA hx hy
 obtain⟨h5,h6⟩:=hz.hold
 obtain⟨r,h',c,-,rfl⟩:=Hm ⟨[],[],0,[]⟩ (au x) (au y) (au z) rows owners aa h1 h2 h5 hl
 exact dm (L:=L5) (args':=[.agg [au x,au y],au z]) rfl rfl (by simp[bA,aV,h3,h4,h6]) c rfl rfl
theorem DS(x y:AV)(rows:List (List Int))(owners:List Int)(hx:RL x rows)(hy:IL y owners)(a v:Int):∀h,W5.call 130 [.agg [x,y],.agg [im a,im v]] h=some (.ret (.v (.bool (lO rows (a,v)))),h):=by
 obtain⟨h1,h2,h3,h4⟩:=fA hx hy
 obtain⟨r,h',c,-,rfl⟩:=KA ⟨[],[],0,[]⟩ (au x) (au y) rows owners h1 h2 a v
 exact dm (L:=L5) (args':=[.agg [au x,au y],.agg [im a,im v]]) rfl rfl (by simp[bA,aV,h3,h4,im]) c rfl rfl
theorem xX:∀l:List Int,(ints l).flatten=l.map im
 | []=>rfl
 |a::l=>by
  show(nC a::ints l).flatten=im a::l.map im
  rw[acp,xX l];rfl
theorem MV{h:ae}{y:AV}{l:List Int}(s:b9 1 h y (ints l)):IL (jK h y) l/\aV 0 0 0 (jK h y)=true:=by
 rcases s.2 with⟨k,s',rfl,hs⟩|⟨b,off,cap,cs,rfl,-,hb,h1,h2⟩
 ·rw[jK]
  exact⟨⟨_,_,rfl,fun q=>hs (by unfold ints;simpa using q)⟩,by rw[aV,bV,fJ];rfl⟩
 ·rw[jK,hb]
  simp only
  rw[acM] at h1 h2
  have e:(ints l).flatten.map (fun c=>[c])=ints l:=by
   have this:(ints l).flatten=l.map im:=xX l
   rw[this,EL]
  rw[if_pos h2,h1,e]
  exact⟨⟨_,_,rfl,fun _=>rfl⟩,by rw[aV,fJ];rfl⟩
theorem MW(x y:AV)(a b:List Int)(hx:IL x a)(hy:IL y b)(hl:a.length+b.length<=1000000):∃z,IL z (a++b)/\∀h,W5.call 109 [.list .tight 1 [[x],[y]]] h=some (.ret z,h):=by
 obtain⟨h1,h2⟩:=hx.hold
 obtain⟨h3,h4⟩:=hy.hold
 obtain⟨r,h',c,z,rfl,-,sz⟩:=DQ .tight [au x,au y] [ints a,ints b] rfl ⟨[],[],0,[]⟩ (fun i w rs hw hrs=>by
  have sa:∀{w:AV} {l:List Int},IL w l->b9 1 ⟨[],[],0,[]⟩ w (ints l):=fun{w l} hw=>by
   obtain⟨k,s,rfl,hs⟩:=hw
   exact b9.list (fun r hr=>by obtain⟨n,-,rfl⟩:=aco.1 hr;rfl) fun q=>hs fun e=>q (by rw[e];rfl)
  rcases i with _|_|i
  ·injection hw with hw;injection hrs with hrs;subst hw;subst hrs;exact sa h1
  ·injection hw with hw;injection hrs with hrs;subst hw;subst hrs;exact sa h3
  ·cases hw) (by simp[aU];omega) (by simp)
 have e:[ints a,ints b].flatten=ints (a++b):=by simp[ints]
 rw[e] at sz
 obtain⟨i1,i2⟩:=MV sz
 exact⟨_,i1,dm (L:=L5) (args':=[.list .tight 1 [[au x],[au y]]]) rfl rfl (by simp[bA,aV,gH,h2,h4,oF]) c rfl i2⟩
theorem PB(tag b:List UInt8)(k:Tok)(hb:b.length<=1099511620000)(ht:tag.length<=1099511620000):∀h,W5.call 78 [.v (.string (bs tag)),.list k 1 (u8s b)] h=some (.ret (im (mK (dV tag b):Nat)),h):=
 dm (L:=L5) (args':=[.v (.string (bs tag)),.list (di k) 1 (u8s b)]) rfl (by rw[bM,bM,au.eq_1,iQ];rfl) (by simp[bA,aV,bV,fT]) (KB tag b _ hb ht _) rfl rfl
theorem oS.hold{x:AV}{v:Vl}(h:oS x v):oS (au x) v/\aV 0 0 0 (au x)=true:=by
 cases h with
 |int n hn=>exact⟨.int n hn,rfl⟩
 |text k s b hs hb=>
  rw[au,au,iQ]
  exact⟨.text _ s b hs hb,by simp[aV,bV,fT]⟩
 |val v r h=>
  obtain⟨h1,h2⟩:=eo.hold v r h
  rw[au,au]
  exact⟨.val v _ h1,by simpa [aV] using h2⟩
theorem jM.hold{xs:List AV}{vs:List Vl}(h:jM xs vs):jM (xs.map au) vs/\∀a∈xs.map au,aV 0 0 0 a=true:=by
 refine⟨⟨by simp[h.1],fun i x v hx hv=>?_⟩,fun a ha=>?_⟩
 ·rw[abF] at hx
  cases hy:xs[i]? with
  |none=>rw[hy] at hx;cases hx
  |some y=>
   rw[hy] at hx
   injection hx with hx
   subst hx
   exact(h.2 i y v hy hv).hold.1
 ·obtain⟨y,hy,rfl⟩:=aco.1 ha
  obtain⟨i,hi⟩:=acC hy
  have hil:=(abm.1 hi).1
  exact(h.2 i y _ hi (abo (by rw[<-h.1];exact hil))).hold.2
theorem eo.tok{vs:List Vl}{t:Tok}{sz:Nat}{rows:List (List AV)}(h:eo (.list vs) (cE 3 0 [] t sz rows))(t2:Tok):eo (.list vs) (cE 3 0 [] t2 sz rows):=by
 generalize hr:cE 3 0 [] t sz rows=r at h
 cases h with
 |list l k z rs a b c d=>
  unfold cE at hr
  injection hr with _ hr
  injection hr with _ hr
  injection hr with _ hr
  injection hr with hr
  injection hr with q1 q2 q3
  subst q2;subst q3
  exact .list vs t2 sz rows a b c d
theorem Hn(k:Tok)(s:Nat)(xs:List AV)(vs:List Vl)(hr:jM xs vs)(hs:xs≠[]->s=1)(hl:xs.length<=1000):
 ∃row,eo (.list vs) row/\∀h,W5.call 112 [.list k s (xs.map fun a=>[a])] h=some (.ret (.agg row),h):=by
 obtain⟨h1,h2⟩:=hr.hold
 obtain⟨r,h',c,-,t,sz,rows,rfl,hv,hf,-⟩:=zH ⟨[],[],0,[]⟩ ok0 (di k) s (xs.map au) vs h1 (fun q=>hs (by simpa using q)) (by simpa using hl) h2
 refine⟨cE 3 0 [] (di t) sz rows,hv.tok _,dm (L:=L5) (args':=[.list (di k) s ((xs.map au).map fun a=>[a])]) rfl (by rw[bM,bM,au,hD]) (by rw[bA,bA,aV,bV,gx _ h2];rfl) c rfl ?_⟩
 rw[aV,cE,bA,bA,bA,bA,bA,aV,bV,hf];rfl
theorem xY{z:Nat}{h:ae}:∀xs:List AV,qG z h (xs.map fun a=>[a])=(xs.map (jh z h)).map fun a=>[a]
 | []=>rfl
 |x::xs=>by rw[abK,qG,xY xs];rfl
theorem EU{z:Nat}{h:ae}:∀b:List UInt8,qG z h (u8s b)=u8s b
 | []=>rfl
 |a::b=>by
  show qG z h (dp a::u8s b)=_
  rw[qG,EU b];rfl
def qh(h:ae)(x:AV)(v:Vl):Prop:=oS (jh 4 h x) v/\aV 0 0 0 (jh 4 h x)=true
def oT(h:ae)(xs:List AV)(vs:List Vl):Prop:=xs.length=vs.length/\∀(i:Nat) x v,xs[i]?=some x->vs[i]?=some v->qh h x v
theorem oT.nil{h:ae}:oT h [] []:=⟨rfl,fun i x v q=>by simp at q⟩
theorem oT.cons{h:ae}{x:AV}{v:Vl}{xs:List AV}{vs:List Vl}(q:qh h x v)(hs:oT h xs vs):oT h (x::xs) (v::vs):=by
 refine⟨by simp[hs.1],fun i y w hy hw=>?_⟩
 cases i with
 |zero=>simp at hy hw;subst hy;subst hw;exact q
 |succ i=>simp at hy hw;exact hs.2 i y w hy hw
theorem qh.int{h:ae}(n:Int)(hn:0<=n/\n<=4611686018427387903):qh h (.iface 3 (.v (.int .i64 n))) (.int n):=⟨.int n hn,rfl⟩
theorem qh.text{h:ae}(k:Tok)(s:Nat)(b:List UInt8)(hs:b≠[]->s=1)(hb:b.length<=1099511620000):qh h (.iface 28 (.list k s (u8s b))) (.text b):=by
 unfold qh
 rw[jh,jh,EU]
 exact⟨.text _ s b hs hb,by simp[aV,bV,fT]⟩
theorem PC{z:Nat}{rows:List (List AV)}(hr:∀r∈rows,r.length=z){i:Nat}{r:List AV}(h:rows[i]?=some r):(rows.flatten.drop (i * z)).take z=r:=by
 have hl:=hr r (abz h)
 refine acG fun j=>?_
 rw[acj]
 split
 ·rename_i hj
  rw[acw,AD hr i j hj,h];rfl
 ·rename_i hj
  rw[acf (by omega)]
theorem BH{z:Nat}(hz:0<z):∀rows:List (List AV),(∀r∈rows,r.length=z)->qc z rows.flatten 0 rows.length=rows:=by
 intro rows hr
 refine acG fun i=>?_
 unfold qc
 rw[abF]
 rcases abL i rows.length with hi|hi
 ·rw[List.getElem?_range hi,abJ,Nat.zero_add,PC hr (abo hi),abo hi]
 ·rw[acf (by simpa using hi),acf hi];rfl
theorem qh.list{h:ae}{vs:List Vl}{rows:List (List AV)}{b:Nat}(hb:h.boxes[b]?=some rows.flatten)(hr:oP vs rows)(hm:rows.length<=1000000):qh h (.iface 96 (.agg (im 3::im 0::sv []::[.arr b 0 rows.length rows.length]))) (.list vs):=by
 have hl:∀r∈rows,r.length=4:=fun r hr'=>by
  obtain⟨i,hi⟩:=acC hr'
  have hil:=(abm.1 hi).1
  exact(hr.2 i _ r (abo (by rw[<-hr.1];exact hil)) hi).len
 have e:jh 4 h (.iface 96 (.agg (im 3::im 0::sv []::[.arr b 0 rows.length rows.length])))=.iface 96 (.agg (cE 3 0 [] .held 4 (eF rows))):=by
  unfold im sv cE
  simp only[jh,j3,hb]
  rw[if_pos ⟨by rw[a8 hl];omega,by decide⟩,BH (by decide) rows hl]
  rfl
 have hv:eo (.list vs) (cE 3 0 [] .held 4 rows):=.list vs .held 4 rows hr.1 (fun _=>rfl) hm hr.2
 obtain⟨h1,h2⟩:=eo.hold _ _ hv
 have e2:bM (cE 3 0 [] .held 4 rows)=cE 3 0 [] .held 4 (eF rows):=rfl
 rw[e2] at h1 h2
 unfold qh
 rw[e]
 exact⟨.val _ _ h1,by simpa [aV] using h2⟩
theorem oT.frz{h:ae}{xs:List AV}{vs:List Vl}(q:oT h xs vs):jM (xs.map (jh 4 h)) vs/\∀a∈xs.map (jh 4 h),aV 0 0 0 a=true:=by
 refine⟨⟨by simp[q.1],fun i x v hx hv=>?_⟩,fun a ha=>?_⟩
 ·rw[abF] at hx
  cases hy:xs[i]? with
  |none=>rw[hy] at hx;cases hx
  |some y=>
   rw[hy] at hx
   injection hx with hx
   subst hx
   exact(q.2 i y v hy hv).1
 ·obtain⟨y,hy,rfl⟩:=aco.1 ha
  obtain⟨i,hi⟩:=acC hy
  have hil:=(abm.1 hi).1
  exact(q.2 i y _ hi (abo (by rw[<-q.1];exact hil))).2
theorem xZ(h:ae)(tag:List UInt8)(k:Tok)(s:Nat)(xs:List AV)(vs:List Vl)(hr:oT h xs vs)(hs:xs≠[]->s=1)(hl:xs.length<=1000)(ht:tag.length<=1099511620000)(hdp:eD (.list vs)<=16)(hen:(fB (.list vs)).length<=1099511600000):
 W5.call 114 [.v (.string (bs tag)),.list k s (xs.map fun a=>[a])] h=some (.ret (im ((mL tag (.list vs):Nat):Int)),h):=by
 obtain⟨h1,h2⟩:=hr.frz
 obtain⟨r,h',c,rfl⟩:=MS ⟨[],[],0,[]⟩ ok0 tag (di k) s (xs.map (jh 4 h)) vs h1 (fun q=>hs (by simpa using q)) (by simpa using hl) h2 ht hdp hen
 refine Ky (args':=[.v (.string (bs tag)),.list (di k) s ((xs.map (jh 4 h)).map fun a=>[a])]) rfl rfl ?_ ?_ c
 ·rw[j3,j3,j3,jh,xY]
  rfl
 ·simp only[bA,aV,bV,gx _ h2,Bool.and_self]
theorem j8.hold{x:AV}{v:Vl}(h:j8 x v):j8 (au x) v/\aV 0 0 0 (au x)=true:=by
 cases h with
 |int n hn=>exact⟨.int n hn,rfl⟩
 |text k s b hs hb=>
  rw[au,au,iQ]
  exact⟨.text _ s b hs hb,by simp[aV,bV,fT]⟩
theorem mq.hold{xs:List AV}{vs:List Vl}(h:mq xs vs):mq (xs.map au) vs/\∀a∈xs.map au,aV 0 0 0 a=true:=by
 refine⟨⟨by simp[h.1],fun i x v hx hv=>?_⟩,fun a ha=>?_⟩
 ·rw[abF] at hx
  cases hy:xs[i]? with
  |none=>rw[hy] at hx;cases hx
  |some y=>
   rw[hy] at hx
   injection hx with hx
   subst hx
   exact(h.2 i y v hy hv).hold.1
 ·obtain⟨y,hy,rfl⟩:=aco.1 ha
  obtain⟨i,hi⟩:=acC hy
  have hil:=(abm.1 hi).1
  exact(h.2 i y _ hi (abo (by rw[<-h.1];exact hil))).hold.2
theorem KJ(k:Tok)(s:Nat)(xs:List AV)(vs:List Vl)(hr:mq xs vs)(hs:xs≠[]->s=1)(hl:xs.length<=1000)(hdp:eD (.list vs)<=16)(hen:(fB (.list vs)).length<=1099511600000):
 ∃t,∀h,W5.call 79 [.list k s (xs.map fun a=>[a])] h=some (.ret (.list t 1 (u8s (fB (.list vs)))),h):=by
 obtain⟨h1,h2⟩:=hr.hold
 obtain⟨r,h',c,t,rfl⟩:=PA ⟨[],[],0,[]⟩ ok0 (di k) s (xs.map au) vs h1 (fun q=>hs (by simpa using q)) (by simpa using hl) hdp hen
 exact⟨di t,dm (L:=L5) (args':=[.list (di k) s ((xs.map au).map fun a=>[a])]) rfl (by rw[bM,bM,au,hD]) (by rw[bA,bA,aV,bV,gx _ h2];rfl) c rfl (by simp[aV,bV,fT])⟩
theorem BJ(k0:Tok)(s0:Nat)(xs:List AV)(y z:AV)(rows:List (List Int))(owners who:List Int)(hx:RL (.list k0 s0 (xs.map fun a=>[a])) rows)(hy:IL y owners)(hz:IL z who)(hwl:who.length<=1099511627776):
 (∃e,bJ rows owners who=([],false,e)/\∀h,W5.call 76 [.agg [.list k0 s0 (xs.map fun a=>[a]),y],z] h=some (.ret (.tuple [.list .nil 0 [],.v (.bool false),.v (.int .i64 e)]),h))∨
 ∃l,bJ rows owners who=(l,true,0)/\l.length=rows.length/\∀h,W5.call 76 [.agg [.list k0 s0 (xs.map fun a=>[a]),y],z] h=some (.ret (.tuple [.list .held 1 (ints l),.v (.bool true),.v (.int .i64 0)]),h):=by
 obtain⟨h1,h2⟩:=hx.hold
 obtain⟨h3,h4⟩:=hy.hold
 obtain⟨h5,h6⟩:=hz.hold
 have ea:bM [.agg [.list k0 s0 (xs.map fun a=>[a]),y],z]=[.agg [.list (di k0) s0 ((xs.map au).map fun a=>[a]),au y],au z]:=by
  rw[bM,au,bM,bM,bM,au,hD];rfl
 have ef:bA 0 0 0 [.agg [.list (di k0) s0 ((xs.map au).map fun a=>[a]),au y],au z]=true:=by
  have hf:=gx _ h2
  rw[bA,aV,bA,bA,bA,bA,aV,bV,hf,h4,h6];rfl
 rcases Kr (di k0) s0 (xs.map au) (au y) (au z) rows owners who h1 h3 h5 hwl with⟨e,e1,hc⟩|⟨l,e1,e2,hc⟩
 ·exact .inl ⟨e,e1,dm (L:=L5) rfl ea ef (hc _) rfl rfl⟩
 ·exact .inr ⟨l,e1,e2,dm (L:=L5) rfl ea ef (hc _) rfl (by simp[aV,bA,fJ,oF])⟩
theorem Ho:Tryz.f26.results.toList=[.tmp 6]:=kZq
theorem sR{b:Nat}:aJ Tryz.prog 50 (.ptr (.box b) 0) 0=some (.ptr (.box b) 0):=kZq
theorem sS{b:Nat}:aJ Tryz.prog 50 (.ptr (.box b) 0) 1=some (.ptr (.box b) 1):=kZq
theorem if3:isIface Tryz.prog 3=some false:=kZq
theorem PD:isIface Tryz.prog 28=some false:=kZq
theorem Td:isIface Tryz.prog 96=some false:=kZq
theorem bp3(t u v:TypeId)(x y z:AV):aN Tryz.prog 180 3 [(0,.iface t x),(1,.iface u y),(2,.iface v z)]=some (.list .tight 1 [[.iface t x],[.iface u y],[.iface v z]]):=kZq
theorem BK(a b:Int)(t:List UInt8):(fB (.list [.int a,.int b,.text t])).length<=60+t.length:=by
 have h1:=et 9 (0+1+1+1)
 have h2:=et 9 (oK a)
 have h3:=et 9 (oK b)
 have h4:=et 9 t.length
 simp only[fB,jB,ab0,abx,ab7] at *
 omega
theorem oU:aX 4=true:=by decide+kernel
theorem iS{a:Int}(h:aX a=true)(n:Int):iL a n=((aY a.toNat n:Nat):Int):=by unfold iL;rw[if_pos h]
theorem gq{a:Nat}(h:elem a=true):aX ((a:Nat):Int)=true:=by
 unfold aX
 rw[abB,h,Bool.and_true]
 have:=(elem_iff.1 h).1
 exact decide_eq_true (by omega)
theorem ji{a:Int}(h:aX a=true):elem a.toNat=true:=by
 unfold aX at h
 rw[abr] at h
 exact h.2
theorem ir{a:Int}(h:aX a=true):1<=a/\a<=2147483578:=by
 obtain⟨n,rfl,h1,h2,h3⟩:=px h
 have:P=2147483579:=rfl
 omega
theorem Hq{a:Int}(h:aX a=true)(n:Int):aX ((aY a.toNat n:Nat):Int)=true:=gq (iq (ji h) n)
theorem hJ{a:Int}(h:aX a=true)(n:Int):aX (iL a n)=true:=by rw[iS h];exact Hq h n
theorem rR{a b:Int}(h:aX a=true)(k:aX b=true):pO a b=((a.toNat * b.toNat%P:Nat):Int):=by unfold pO;rw[if_pos ⟨h,k⟩]
theorem DT{a b:Int}(h:aX a=true)(k:aX b=true):aX (pO a b)=true:=by rw[rR h k];exact gq (oH (ji h) (ji k))
theorem KK(h:ae)(key e s:Int)(kt:Tok)(st:Nat)(text:List UInt8)(hst:text≠[]->st=1)(hl:text.length<=1000000):
 ∃r h',W5.call 26 [im key,.list kt st (u8s text),.agg [im e,im s]] h=some (r,h')/\r=.ret (.v (.bool (iO key text e s)))/\Ext h h':=by
 have c1:=vN key
 have bx:(AV.agg [im e,im s]).aC=some [im e,im s]:=rfl
 have l0:=Pu (ak h [im e,im s])
 have l1:=Pv (ak h [im e,im s])
 have kv:ah (iO key text e s=(aX key&&inQ e&&inQ s&&decide (e=((tw ((aY Gn s * aY key.toNat (0 - e)%P:Nat):Int) key text:Nat):Int)))):=⟨by rw[Int.zero_sub];rfl⟩
 generalize iO key text e s=res at *
 refine aL rfl Tryz.func26 rfl ?_
 unfold im at *
 by_cases hA:e<0∨s<0
 ·have d1:decide ((if s<e then s else e)<0)=true:=decide_eq_true (by split<;>omega)
  have kr:ah (res=false):=⟨by
   rw[kv.out]
   unfold inQ
   rcases hA with q|q
   ·rw[decide_eq_false (show ¬0<=e by omega)];simp
   ·rw[decide_eq_false (show ¬0<=s by omega)];simp⟩
  clear hA
  refine gx6 @Ho @sR @sS @aw @ri @pc ?_
  exact⟨_,_,rfl,by rw[kr.out],.push _ _⟩
 have d1:decide ((if s<e then s else e)<0)=false:=decide_eq_false (by split<;>omega)
 by_cases hB:1073741789<=e∨1073741789<=s
 ·have d2:decide (1073741789<=(if e<s then s else e))=true:=decide_eq_true (by split<;>omega)
  have kr:ah (res=false):=⟨by
   rw[kv.out]
   unfold inQ Qi
   rcases hB with q|q
   ·rw[decide_eq_false (show ¬e<1073741789 by omega)];simp
   ·rw[decide_eq_false (show ¬s<1073741789 by omega)];simp⟩
  clear hA hB
  refine gx6 @Ho @sR @sS @aw @ri @pc ?_
  exact⟨_,_,rfl,by rw[kr.out],.push _ _⟩
 have d2:decide (1073741789<=(if e<s then s else e))=false:=decide_eq_false (by split<;>omega)
 have he0:0<=e:=by omega
 have he1:e<1073741789:=by omega
 have hs0:0<=s:=by omega
 have hs1:s<1073741789:=by omega
 clear hA hB
 cases hC:aX key with
 |false=>
  rw[hC] at c1
  have kr:ah (res=false):=⟨by rw[kv.out,hC];rfl⟩
  clear hC
  refine gx6 @Ho @sR @sS @aw @ri @pc ?_
  exact⟨_,_,rfl,by rw[kr.out],.push _ _⟩
 |true=>
  rw[hC] at c1
  have c2:=xW 4 s
  have c3:=xW key (0 - e)
  have c4:=xV (iL 4 s) (iL key (0 - e))
  have hr:=DT (hJ oU s) (hJ hC (0 - e))
  have hR:pO (iL 4 s) (iL key (0 - e))=((aY Gn s * aY key.toNat (0 - e)%P:Nat):Int):=by
   rw[rR (hJ oU s) (hJ hC (0 - e)),iS oU,iS hC,abB,abB];rfl
  have kr:ah (res=decide (e=((tw (pO (iL 4 s) (iL key (0 - e))) key text:Nat):Int))):=⟨by
   rw[kv.out,hC,hR,iP.2 (show okF e from⟨he0,he1⟩),iP.2 (show okF s from⟨hs0,hs1⟩)];rfl⟩
  have hk:=ir hC
  have hrr:=ir hr
  clear hC hR hr
  generalize pO (iL 4 s) (iL key (0 - e))=R at *
  have hlen:=BK R key text
  obtain⟨te,c5⟩:=KJ .tight 1 [.iface 3 (.v (.int .i64 R)),.iface 3 (.v (.int .i64 key)),.iface 28 (.list kt st (u8s text))] [.int R,.int key,.text text]
   (.cons (.int R ⟨by omega,by omega⟩) (.cons (.int key ⟨by omega,by omega⟩) (.cons (.text kt st text hst (by omega)) .nil))) (fun _=>rfl) (by simp) (by simp[eD,dN]) (by omega)
  have c6:=PB vi (fB (.list [.int R,.int key,.text text])) te (by omega) (by decide)
  have hh:mK (dV vi (fB (.list [.int R,.int key,.text text])))=tw R key text:=rfl
  rw[hh] at c6
  simp only[abK,List.map_nil] at c5
  generalize tw R key text=n at *
  rw[show vi=[115,105,103,110] from rfl] at c6
  have wn:IntKind.i64.wrap (0 - e)=0 - e:=bT (by omega) (by omega)
  unfold im at *
  clear hlen hh hk hrr
  refine gx6 @Ho @sR @sS @aw @ri @pc ?_
  refine bf gM kZq ?_
  refine gx3 @Ho @sR @sS ?_
  refine bf gM kZq ?_
  refine gx6 @Ho @sR @sS @if3 @PD @bp3 ?_
  exact⟨_,_,rfl,by rw[kr.out],.push _ _⟩
theorem Hr:Tryz.f68.results.toList=[.tmp 6,.tmp 7]:=kZq
theorem PE:Tryz.f56.results.toList=[.tmp 6,.tmp 7]:=kZq
def wL(aa row:List Int)(k:Nat):Nat:=(aby k).foldl (fun x j=>x * aY (at0 aa j).toNat (at0 row j)%P) 1
theorem x7(aa row:List Int)(k:Nat):wL aa row (k+1)=wL aa row k * aY (at0 aa k).toNat (at0 row k)%P:=by
 unfold wL
 rw[acx,acs];rfl
theorem sT{aa row:List Int}(h:aa.all aX=true):∀k,k<=aa.length->elem (wL aa row k)=true
 |0,_=>mI
 |k+1,hk=>by
  rw[x7]
  refine oH (sT h k (by omega)) (iq (ji ?_) _)
  rw[abE] at h
  exact h _ (by rw[bN (by omega)];exact ab1 _)
def gy(rows:List (List Int))(owners aa:List Int)(row:Int):Int × Int:=
 if dx rows owners aa≠0 then (0,dx rows owners aa) else if decide (row<0)||decide ((rows.length:Int)<=row) then (0,1) else (((lU aa (rows.getD row.toNat []):Nat):Int),0)
theorem ya{rows:List (List Int)}{owners aa:List Int}(h:dx rows owners aa=0):bC rows owners=0/\aa.length=aK rows/\aa.all aX=true:=by
 unfold dx at h
 split at h
 ·rename_i q;exact absurd h q
 ·rename_i q
  split at h
  ·rename_i q2
   rw[abr,decide_eq_true_eq] at q2
   exact⟨by simpa using q,q2.1,q2.2⟩
  ·cases h
theorem BM(h:ae)(x y z:AV)(rows:List (List Int))(owners aa:List Int)(hx:RL x rows)(hy:IL y owners)(hz:IL z aa)(hl:aa.length<=1000000)(row:Int):
 ∃r h',W5.call 68 [.agg [x,y],z,im row] h=some (r,h')/\r=.ret (.tuple [im (gy rows owners aa row).1,im (gy rows owners aa row).2])/\Ext h h':=by
 have bx:=ff hx hy
 have c1:=tN x y z rows owners aa hx hy hz hl
 have b0:=ak h [x,y]
 have l0:=ma b0
 have l1:=tY b0
 have ln:=hx.cH
 have kx:=ah.mk (abp hx hz)
 clear hx hy b0
 have hp1:ah (dx rows owners aa≠0->gy rows owners aa row=(0,dx rows owners aa)):=⟨fun q=>by unfold gy;rw[if_pos q]⟩
 have hp2:ah (dx rows owners aa=0->row<0∨(rows.length:Int)<=row->gy rows owners aa row=(0,1)):=⟨fun q p=>by
  unfold gy
  rw[if_neg (by simp[q]),if_pos]
  rcases p with p|p
  ·rw[decide_eq_true p];rfl
  ·rw[decide_eq_true p];simp⟩
 have hp3:ah (dx rows owners aa=0->¬row<0->¬(rows.length:Int)<=row->gy rows owners aa row=(((lU aa (rows.getD row.toNat []):Nat):Int),0)):=⟨fun q p1 p2=>by
  unfold gy
  rw[if_neg (by simp[q]),if_neg (by rw[decide_eq_false p1,decide_eq_false p2];simp)]⟩
 have hck:=fun q=>@ya rows owners aa q
 have kck:=ah.mk hck
 clear hck
 generalize gy rows owners aa row=res at *
 unfold im at *
 refine aL rfl Tryz.func68 rfl ?_
 by_cases h0:dx rows owners aa=0
 rotate_left 1
 ·have kr:=ah.mk (hp1.out h0)
  generalize dx rows owners aa=q at *
  refine gx2 @Hr @aw ?_
  exact⟨_,_,rfl,by rw[kr.out],.push _ _⟩
 rw[h0] at c1
 by_cases h1:row<0
 ·have d1:decide (row<0)=true:=decide_eq_true h1
  have kr:=ah.mk (hp2.out h0 (.inl h1))
  clear h1 h0
  refine gx3 @Hr @aw @bH ?_
  exact⟨_,_,rfl,by rw[kr.out],.push _ _⟩
 have d1:decide (row<0)=false:=decide_eq_false h1
 by_cases h2:(rows.length:Int)<=row
 ·have d2:decide ((rows.length:Int)<=row)=true:=decide_eq_true h2
  have kr:=ah.mk (hp2.out h0 (.inr h2))
  clear h1 h0 h2
  refine gx3 @Hr @aw @bH ?_
  exact⟨_,_,rfl,by rw[kr.out],.push _ _⟩
 have d2:decide ((rows.length:Int)<=row)=false:=decide_eq_false h2
 have kr:=ah.mk (hp3.out h0 h1 h2)
 obtain⟨q1,q2,q3⟩:=kck.out h0
 obtain⟨w1,w2,w3,w4⟩:=fk q1
 have hrow:row.toNat<rows.length:=by omega
 have hrw:=w3 _ (ab1 hrow)
 rw[<-cU (t:=rows) hrow] at hrw
 generalize hR:rows.getD row.toNat []=R at *
 have hRL:R.length=aa.length:=by rw[hrw.1,q2]
 have hcl:aa.length<=64:=by rw[<-hRL];exact hrw.2.2.1
 obtain⟨k,s,xs,rfl,hs,hxl,hxr⟩:=kx.out.1
 obtain⟨kz,sz,rfl,hsz⟩:=kx.out.2
 have hs1:s=1:=hs (by intro q;rw[q] at hrow;simp at hrow)
 subst hs1
 obtain⟨a,hav⟩:∃a,xs[row.toNat]?=some a:=⟨_,abo (by omega)⟩
 have hv:rows[row.toNat]?=some R:=by rw[<-hR,abw,abo hrow];rfl
 obtain⟨ka,sa,rfl,hsa⟩:=hxr _ a R hav hv
 have ld:=ldr (H:=h.push [.list k 1 (xs.map fun a=>[a]),y]) (s:=1) hav
 have kk:=ah.mk (abp hsz (abp hsa q3))
 have h1':0<=row:=by omega
 have h2':row<(rows.length:Int):=by omega
 have hil:(xs.map fun a=>[a]).length=rows.length:=by rw[abu];exact hxl
 have hil2:=aU R
 have hil3:=aU aa
 have u23:=Tryz.underlying23
 have u22:=Tryz.underlying22
 have z23:=jC
 have z3:=sz3
 clear hs hxr hsz hsa hav hv hR hrw w1 w2 w3 w4 q1 q2 q3 hp1 hp2 hp3 h0 kx kck hz h1 h2
 refine gx3 @Hr @aw @bH ?_
 refine aD (fun m e H=>∃j:Nat,j<=aa.length/\m=aa.length - j/\e.get 2=.v (.int .i64 row)/\e.get 3=.ptr (.box h.boxes.length) 0/\e.get 6=.v (.int .i64 (wL aa R j:Nat))/\e.get 28=.list kz sz (ints aa)/\e.get 29=.v (.int .i64 (aa.length:Nat))/\e.get 30=.v (.int .i64 (j:Nat))/\e.defers=[]/\H=h.push [.list k 1 (xs.map fun a=>[a]),y]) ?_ aa.length _ _ ?_
 rotate_left 1
 ·refine⟨0,abG _,rfl,?_,?_,?_,?_,?_,?_,?_,rfl⟩<;>exact gR
 rintro m e H ⟨j,hj,rfl,g2,g3,g6,g28,g29,g30,hd,rfl⟩
 by_cases hlt:j<aa.length
 ·have hz1:sz=1:=kk.out.1 (by intro q;rw[q] at hlt;simp at hlt)
  subst hz1
  have ha1:sa=1:=kk.out.2.1 (by intro q;rw[q] at hRL;simp at hRL;omega)
  subst ha1
  have hltI:(j:Int)<(aa.length:Int):=by omega
  have hltR:(j:Int)<(R.length:Int):=by omega
  have lc:=ldi (H:=h.push [.list k 1 (xs.map fun a=>[a]),y]) (l:=aa) (i:=j) (s:=1) hlt
  have lr:=ldi (H:=h.push [.list k 1 (xs.map fun a=>[a]),y]) (l:=R) (i:=j) (s:=1) (by omega)
  have he:aX (at0 aa j)=true:=by
   have:=kk.out.2.2
   rw[abE] at this
   exact this _ (by rw[bN hlt];exact ab1 _)
  have c2:=BG (at0 aa j) (at0 R j)
  have c3:=xV ((wL aa R j:Nat):Int) (iL (at0 aa j) (at0 R j))
  have hK:=gq (sT (row:=R) kk.out.2.2 j hj)
  have e3:pO ((wL aa R j:Nat):Int) (iL (at0 aa j) (at0 R j))=((wL aa R (j+1):Nat):Int):=by
   rw[rR hK (hJ he _),iS he,x7,abB,abB]
  have e4:lG (at0 aa j)=0:=by unfold lG;rw[if_pos he]
  have e5:mP ((wL aa R j:Nat):Int) (iL (at0 aa j) (at0 R j))=0:=by unfold mP;rw[if_pos ⟨hK,hJ he _⟩]
  rw[e4] at c2
  rw[e3,e5] at c3
  clear he hK e3 e4 e5
  generalize iL (at0 aa j) (at0 R j)=pw at *
  generalize at0 aa j=cj at *
  generalize at0 R j=rj at *
  unfold im at *
  refine gx3 @Hr @bH @al ?_
  exact⟨aa.length - (j+1),by omega,j+1,by omega,rfl,by simp⟩
 ·have:j=aa.length:=by omega
  subst this
  have e:wL aa R aa.length=lU aa R:=rfl
  repeat' (first|simp(maxSteps:=999999)(disch:=first|exact dZ|fail)only[gW,reduceIte,abn,gBQ,Hr, *]|refine dX ?_ ?_<;>(intro _;try omega))
  exact⟨_,_,rfl,by rw[kr.out,<-e],.push _ _⟩
def mW(rows:List (List Int))(owners aa:List Int)(p:Int × Int):Bool × Int:=
 if dx rows owners aa≠0 then (false,dx rows owners aa) else if lO rows p=false then (false,340) else (decide (aY Gn p.2=lU aa (rows.getD p.1.toNat [])),0)
theorem PF(h:ae)(x y z:AV)(rows:List (List Int))(owners aa:List Int)(hx:RL x rows)(hy:IL y owners)(hz:IL z aa)(hl:aa.length<=1000000)(a v:Int):
 ∃r h',W5.call 56 [.agg [x,y],z,.agg [im a,im v]] h=some (r,h')/\r=.ret (.tuple [.v (.bool (mW rows owners aa (a,v)).1),im (mW rows owners aa (a,v)).2])/\Ext h h':=by
 have bx:=ff hx hy
 have b2:(AV.agg [im a,im v]).aC=some [im a,im v]:=rfl
 have c1:=tN x y z rows owners aa hx hy hz hl
 have c2:=DS x y rows owners hx hy a v
 obtain⟨_,H2,c3,rfl,x3⟩:=BM ((h.push [x,y]).push [im a,im v]) x y z rows owners aa hx hy hz hl a
 have c4:=BG 4 v
 have e4:lG 4=0:=by unfold lG;rw[if_pos oU]
 rw[e4,iS oU] at c4
 have q1:((h.push [x,y]).push [im a,im v]).boxes[h.boxes.length]?=some [x,y]:=aj (ak h [x,y])
 have q2:=ak (h.push [x,y]) [im a,im v]
 have l0:=ma q1
 have l1:ai Tryz.prog Gt ((h.push [x,y]).push [im a,im v]) 81 (.ptr (.box (h.push [x,y]).boxes.length) 0)=some (.agg [im a,im v]):=by
  rw[cP kZq (by kernel_rfl:bF Tryz.prog 81=some 2) q2 (abq 2)];rfl
 have l2:=Pu q2
 have l3:ai Tryz.prog Gt H2 3 (.ptr (.box (h.push [x,y]).boxes.length) 1)=some (im v):=Pv (x3.box _ _ q2)
 have kX:=ah.mk (((Ext.push h [x,y]).trans (.push _ [im a,im v])).trans x3)
 have X1:=ah.mk ((Ext.push h [x,y]).trans (.push _ [im a,im v]))
 have hp1:ah (dx rows owners aa≠0->mW rows owners aa (a,v)=(false,dx rows owners aa)):=⟨fun q=>by unfold mW;rw[if_pos q]⟩
 have hp2:ah (dx rows owners aa=0->lO rows (a,v)=false->mW rows owners aa (a,v)=(false,340)):=⟨fun q p=>by unfold mW;rw[if_neg (by simp[q]),if_pos p]⟩
 have hp3:ah (dx rows owners aa=0->lO rows (a,v)=true->mW rows owners aa (a,v)=(decide (aY Gn v=lU aa (rows.getD a.toNat [])),0)):=⟨fun q p=>by unfold mW;rw[if_neg (by simp[q]),if_neg (by simp[p])]⟩
 have hp4:ah (dx rows owners aa=0->lO rows (a,v)=true->gy rows owners aa a=(((lU aa (rows.getD a.toNat []):Nat):Int),0)):=⟨fun q p=>by
  unfold lO at p
  simp only[abr,decide_eq_true_eq] at p
  unfold gy
  rw[if_neg (by simp[q]),if_neg]
  rw[decide_eq_false (show ¬a<0 by omega),decide_eq_false (show ¬(rows.length:Int)<=a by omega)];simp⟩
 clear hx hy hz q1 q2 x3 e4
 generalize mW rows owners aa (a,v)=res at *
 refine aL rfl Tryz.func56 rfl ?_
 by_cases h0:dx rows owners aa=0
 rotate_left 1
 ·have kr:=ah.mk (hp1.out h0)
  clear c3 c2 l3
  generalize dx rows owners aa=q at *
  unfold im at *
  refine gx2 @PE @aw ?_
  exact⟨_,_,rfl,by rw[kr.out],X1.out⟩
 rw[h0] at c1
 cases h1:lO rows (a,v) with
 |false=>
  have kr:=ah.mk (hp2.out h0 h1)
  rw[h1] at c2
  clear c3 h1 h0 l3
  unfold im at *
  refine gx2 @PE @aw ?_
  exact⟨_,_,rfl,by rw[kr.out],X1.out⟩
 |true=>
  have kr:=ah.mk (hp3.out h0 h1)
  rw[hp4.out h0 h1] at c3
  rw[h1] at c2
  clear h1 h0
  have hG:(4:Int).toNat=Gn:=rfl
  rw[hG] at c4
  have hd:decide (aY Gn v=lU aa (rows.getD a.toNat []))=decide (((aY Gn v:Nat):Int)=((lU aa (rows.getD a.toNat []):Nat):Int)):=by rw[decide_eq_decide];omega
  rw[hd] at kr
  generalize ((aY Gn v:Nat):Int)=p1 at *
  generalize ((lU aa (rows.getD a.toNat []):Nat):Int)=p2 at *
  clear hp1 hp2 hp3 hp4 hd hG
  unfold im at *
  refine gx4 @PE @aw @zE @zF ?_
  exact⟨_,_,rfl,by rw[kr.out],kX.out⟩
end Go.Proofs.YtnfciiiohoafaaaGreatDoor
end
