/-
  The engine, part 51: a function that gives a number and takes lists whose cells may lie in boxes: for the call these boxes are lists.
-/
import Derived.Test.YtnfciiiohoafaaaGreatDoorPM
import Derived.Test.YtnfciiiohoafaaaGreatDoorPI
set_option maxHeartbeats 64000000
set_option maxRecDepth 100000
set_option linter.unusedSimpArgs false
set_option linter.unusedVariables false
set_option linter.constructorNameAsVariable false
section
namespace Go.Proofs.YtnfciiiohoafaaaGreatDoor
open Go.AE Go.NT
def L4:List FuncId:=[28,29,30,46,65,66,69,76,78,82,94,97,118,119,120,121,123,132,138,140,146,172,194,195,196,201]
noncomputable def sP:FuncId->Option (List AV->ae->Option (AV × ae)):=fx W3 L4
noncomputable abbrev W4:=whole Tryz.prog Gt sP
theorem Bz:jo sP L4:=nE
section
variable (a b n x:Int)
theorem RD:∀h,W4.call 28 [im a,im b] h=some (.ret (im (cN a b)),h):=aF (L:=L4) rfl rfl rfl (S8 a b _) rfl rfl
theorem RE:∀h,W4.call 29 [im a,im b] h=some (.ret (im (cq a b)),h):=aF (L:=L4) rfl rfl rfl (S9 a b _) rfl rfl
theorem Kp:∀h,W4.call 46 [im x] h=some (.ret (.v (.bool (aX x))),h):=aF (L:=L4) rfl rfl rfl (Pn x _) rfl rfl
theorem RF:∀h,W4.call 69 [im a,im b] h=some (.ret (.tuple [im (pO a b),im (mP a b)]),h):=aF (L:=L4) rfl rfl rfl (RB a b _) rfl rfl
theorem Kq:∀h,W4.call 30 [im a,im n] h=some (.ret (.tuple [im (iL a n),im (lG a)]),h):=aF (L:=L4) rfl rfl rfl (RC a n _) rfl rfl
end
theorem Kr(k0:Tok)(s0:Nat)(xs:List AV)(y z:AV)(rows:List (List Int))(owners who:List Int)(hx:RL (.list k0 s0 (xs.map fun a=>[a])) rows)(hy:IL y owners)(hz:IL z who)(hwl:who.length<=1099511627776):
 (∃e,bJ rows owners who=([],false,e)/\∀h,W4.call 76 [.agg [.list k0 s0 (xs.map fun a=>[a]),y],z] h=some (.ret (.tuple [.list .nil 0 [],.v (.bool false),.v (.int .i64 e)]),h))∨
 ∃l,bJ rows owners who=(l,true,0)/\l.length=rows.length/\∀h,W4.call 76 [.agg [.list k0 s0 (xs.map fun a=>[a]),y],z] h=some (.ret (.tuple [.list .held 1 (ints l),.v (.bool true),.v (.int .i64 0)]),h):=by
 obtain⟨h1,h2⟩:=hx.hold
 obtain⟨h3,h4⟩:=hy.hold
 obtain⟨h5,h6⟩:=hz.hold
 have ea:bM [.agg [.list k0 s0 (xs.map fun a=>[a]),y],z]=[.agg [.list (di k0) s0 ((xs.map au).map fun a=>[a]),au y],au z]:=by
  rw[bM,au,bM,bM,bM,au,hD];rfl
 have ef:bA 0 0 0 [.agg [.list (di k0) s0 ((xs.map au).map fun a=>[a]),au y],au z]=true:=by
  have hf:=gx _ h2
  rw[bA,aV,bA,bA,bA,bA,aV,bV,hf,h4,h6];rfl
 obtain⟨r,h',hc,-,⟨e,e1,rfl⟩|⟨l,b,e1,e2,rfl,e3⟩⟩:=DO ⟨[],[],0,[]⟩ (di k0) s0 (xs.map au) (au y) (au z) rows owners who h1 h3 h5 hwl
 ·exact .inl ⟨e,e1,aF (L:=L4) rfl ea ef hc rfl rfl⟩
 ·refine .inr ⟨l,e1,e2,aF (L:=L4) rfl ea ef hc ?_ (by simp[aV,bA,fJ,oF])⟩
  rw[jK,vp,vJ e3 e2];rfl
theorem Uw:Tryz.f93.results.toList=[.tmp 2]:=kZq
theorem V0(h:ae)(x:AV)(l:List Int)(hx:IL x l)(hl:l.length<=9223372036854775807):∃r h',W4.call 93 [x] h=some (r,h')/\h'=h/\r= .ret (.v (.bool (cS (-1) l))):=by
 obtain⟨k,s,rfl,hs⟩:=hx
 have ks:=ah.mk hs
 clear hs
 have u23:=Tryz.underlying23
 have z3:=sz3
 have hil:=aU l
 refine aL rfl Tryz.func93 rfl ?_
 repeat' (first|simp(maxSteps:=999999) (disch:=first|exact dZ|fail) only[gW,reduceIte,Nat.reduceEqDiff,beq_self_eq_true,Uw, *] | (refine dX ?_ ?_<;>(intro _;try omega)))
 refine aD (fun m e H=>∃(i:Nat) (last:Int),i<=l.length/\m=l.length - i/\ah (cS last (l.drop i)=cS (-1) l)/\ -1<=last/\ah (i=0->last= -1)/\ah (0<i->at0 l (i - 1)=last)/\e.get 0= .list k s (ints l)/\e.get 3= .v (.int .i64 (i:Nat))/\e.defers=[]/\H=h) ?_ l.length _ _ ?_
 rotate_left 1
 ·refine⟨0,-1,Nat.zero_le _,rfl,⟨rfl⟩,Int.le_refl _,⟨fun _=>rfl⟩,⟨fun q=>absurd q (Nat.lt_irrefl _)⟩,?_,?_,?_,rfl⟩<;>exact gR
 rintro m e H ⟨i,last,hi,rfl,kP,hla,k0,k1,g0,g3,hd,rfl⟩
 by_cases hlt:i<l.length
 rotate_left 1
 ·have:i=l.length:=by omega
  subst this
  have hf:cS (-1) l=true:=by rw[<-kP.out,List.drop_of_length_le (Nat.le_refl _)];rfl
  have kf:=ah.mk hf
  clear hf
  repeat' (first|simp(maxSteps:=999999) (disch:=first|exact dZ|fail) only[gW,reduceIte,Nat.reduceEqDiff,beq_self_eq_true,Uw, *] | (refine dX ?_ ?_<;>(intro _;try omega)))
  exact⟨_,_,rfl,rfl,by rw[kf.out]⟩
 have hs1:s=1:=ks.out (by intro q;rw[q] at hlt;simp at hlt)
 subst hs1
 have ld:=ldi (H:=H) (s:=1) hlt
 have hltI:(i:Int)<(l.length:Int):=by omega
 have hdrop:l.drop i=at0 l i::l.drop (i+1):=by rw[bN hlt];exact List.drop_eq_getElem_cons hlt
 have hpf:=kP.out
 rw[hdrop,cS] at hpf
 have kpf:=ah.mk hpf
 clear hpf hdrop
 by_cases c1:at0 l i<0
 ·have hd1:decide (at0 l i<0)=true:=by simp[c1]
  have hf:cS (-1) l=false:=by rw[<-kpf.out];simp;omega
  have kf:=ah.mk hf
  clear hf c1
  repeat' (first|simp(maxSteps:=999999) (disch:=first|exact dZ|fail) only[gW,reduceIte,Nat.reduceEqDiff,beq_self_eq_true,Uw,al, *] | (refine dX ?_ ?_<;>(intro _;try omega)))
  refine bf Bz kZq ?_
  repeat' (first|simp(maxSteps:=999999) (disch:=first|exact dZ|fail) only[gW,reduceIte,Nat.reduceEqDiff,beq_self_eq_true,Uw,al, *] | (refine dX ?_ ?_<;>(intro _;try omega)))
  exact⟨_,_,rfl,rfl,by rw[kf.out]⟩
 have hd1:decide (at0 l i<0)=false:=by simp[c1]
 by_cases c2:64<=at0 l i
 ·have hd2:decide (64<=at0 l i)=true:=by simp[c2]
  have hf:cS (-1) l=false:=by rw[<-kpf.out];simp;omega
  have kf:=ah.mk hf
  clear hf c1 c2
  repeat' (first|simp(maxSteps:=999999) (disch:=first|exact dZ|fail) only[gW,reduceIte,Nat.reduceEqDiff,beq_self_eq_true,Uw,al, *] | (refine dX ?_ ?_<;>(intro _;try omega)))
  refine bf Bz kZq ?_
  repeat' (first|simp(maxSteps:=999999) (disch:=first|exact dZ|fail) only[gW,reduceIte,Nat.reduceEqDiff,beq_self_eq_true,Uw,al, *] | (refine dX ?_ ?_<;>(intro _;try omega)))
  exact⟨_,_,rfl,rfl,by rw[kf.out]⟩
 have hd2:decide (64<=at0 l i)=false:=by simp;omega
 by_cases hi0:i=0
 ·subst hi0
  have hl0:=k0.out rfl
  have kP2:ah (cS (at0 l 0) (l.drop (0+1))=cS (-1) l):=⟨by
   rw[<-kpf.out,decide_eq_true (show last<at0 l 0 by omega),decide_eq_true (show at0 l 0<=63 by omega)];rfl⟩
  have hn0: -1<=at0 l 0:=by omega
  have kk1:ah (0<0+1->at0 l (0+1 - 1)=at0 l 0):=⟨fun _=>rfl⟩
  clear c1 c2 hl0 kpf
  repeat' (first|simp(maxSteps:=999999) (disch:=first|exact dZ|fail) only[gW,reduceIte,Nat.reduceEqDiff,beq_self_eq_true,Uw,al, *] | (refine dX ?_ ?_<;>(intro _;try omega)))
  refine bf Bz kZq ?_
  repeat' (first|simp(maxSteps:=999999) (disch:=first|exact dZ|fail) only[gW,reduceIte,Nat.reduceEqDiff,beq_self_eq_true,Uw,al, *] | (refine dX ?_ ?_<;>(intro _;try omega)))
  exact⟨l.length - 1,by omega,0+1,at0 l 0,by omega,rfl,kP2,hn0,⟨fun q=>absurd q (by omega)⟩,kk1,by simp⟩
 ·have hil1:=k1.out (by omega)
  have ld1:=ldi (H:=H) (l:=l) (i:=i - 1) (s:=1) (by omega)
  rw[hil1] at ld1
  have hposI:decide ((0:Int)<(i:Int))=true:=decide_eq_true (by omega)
  have hsub:(i:Int) - 1=((i - 1:Nat):Int):=by omega
  have hltI1:((i - 1:Nat):Int)<(l.length:Int):=by omega
  by_cases c3:at0 l i<=last
  ·have hd3:decide (at0 l i<=last)=true:=by simp[c3]
   have hf:cS (-1) l=false:=by rw[<-kpf.out];simp;omega
   have kf:=ah.mk hf
   clear hf c1 c2 c3 hil1
   repeat' (first|simp(maxSteps:=999999) (disch:=first|exact dZ|fail) only[gW,reduceIte,Nat.reduceEqDiff,beq_self_eq_true,Uw,al, *] | (refine dX ?_ ?_<;>(intro _;try omega)))
   refine bf Bz kZq ?_
   repeat' (first|simp(maxSteps:=999999) (disch:=first|exact dZ|fail) only[gW,reduceIte,Nat.reduceEqDiff,beq_self_eq_true,Uw,al, *] | (refine dX ?_ ?_<;>(intro _;try omega)))
   exact⟨_,_,rfl,rfl,by rw[kf.out]⟩
  ·have hd3:decide (at0 l i<=last)=false:=by simp;omega
   have kP2:ah (cS (at0 l i) (l.drop (i+1))=cS (-1) l):=⟨by
    rw[<-kpf.out,decide_eq_true (show last<at0 l i by omega),decide_eq_true (show at0 l i<=63 by omega)];rfl⟩
   have hn0: -1<=at0 l i:=by omega
   have kk1:ah (0<i+1->at0 l (i+1 - 1)=at0 l i):=⟨fun _=>rfl⟩
   clear c1 c2 c3 hil1 kpf
   repeat' (first|simp(maxSteps:=999999) (disch:=first|exact dZ|fail) only[gW,reduceIte,Nat.reduceEqDiff,beq_self_eq_true,Uw,al, *] | (refine dX ?_ ?_<;>(intro _;try omega)))
   refine bf Bz kZq ?_
   repeat' (first|simp(maxSteps:=999999) (disch:=first|exact dZ|fail) only[gW,reduceIte,Nat.reduceEqDiff,beq_self_eq_true,Uw,al, *] | (refine dX ?_ ?_<;>(intro _;try omega)))
   exact⟨l.length - (i+1),by omega,i+1,at0 l i,by omega,rfl,kP2,hn0,⟨fun q=>absurd q (by omega)⟩,kk1,by simp⟩
section
variable {pr:FuncId->Option (List AV->ae->Option (AV × ae))}
theorem Ks:Tryz.f159.results.toList=[.tmp 4]:=kZq
theorem Pq(hpr:pr 167=none)(g:FuncId)(cap:List AV)(p:Int->Bool)(h:ae)(x:AV)(l:List Int)(hx:IL x l)(hl:l.length<=1000000)(hp:∀n∈l,(whole Tryz.prog Gt pr).call g (im n::cap) h=some (.ret (.v (.bool (p n))),h)):
 ∃r h',(whole Tryz.prog Gt pr).call 167 [x,.func (.func g) [] cap] h=some (r,h')/\h'=h/\∃i:Int,r= .ret (im i)/\decide (0<=i)=l.any p:=by
 obtain⟨k,s,rfl,hs⟩:=hx
 have kp:=ah.mk hp
 have ks:=ah.mk hs
 clear hp hs
 have u23:=Tryz.underlying23
 have z3:=sz3
 have hil:=aU l
 refine aL hpr Tryz.func167 rfl ?_
 repeat' (first|simp(maxSteps:=999999) (disch:=first|exact dZ|fail) only[gW,reduceIte,Nat.reduceEqDiff,beq_self_eq_true,tI, *] | (refine dX ?_ ?_<;>(intro _;try omega)))
 refine aD (fun m e H=>∃i:Nat,i<=l.length/\m=l.length - i/\(l.take i).any p=false/\e.get 0= .list k s (ints l)/\e.get 1= .func (.func g) [] cap/\e.get 7= .v (.int .i64 (l.length:Nat))/\e.get 8= .v (.int .i64 (i:Nat))/\e.defers=[]/\H=h) ?_ l.length _ _ ?_
 rotate_left 1
 ·refine⟨0,Nat.zero_le _,rfl,by simp,?_,?_,?_,?_,?_,rfl⟩<;>exact gR
 rintro m e H ⟨i,hi,rfl,ha,g0,g1,g7,g8,hd,rfl⟩
 have ka:=ah.mk ha
 clear ha
 by_cases hlt:i<l.length
 ·have hs1:s=1:=ks.out (by intro q;rw[q] at hlt;simp at hlt)
  subst hs1
  have ld:=ldi (H:=H) (s:=1) hlt
  have hv:l[i]?=some (at0 l i):=by rw[List.getElem?_eq_getElem hlt,bN hlt]
  have hc:=kp.out (at0 l i) (List.mem_of_getElem? hv)
  have hltI:(i:Int)<(l.length:Int):=by omega
  have htake:(l.take (i+1)).any p=p (at0 l i):=by rw[a9 hv,List.any_append,ka.out];simp
  have kt:=ah.mk htake
  have kh:=ah.mk hv
  clear hv htake
  unfold im at hc
  cases hpv:p (at0 l i) with
  |true=>
   rw[hpv] at hc
   have hany:l.any p=true:=List.any_eq_true.2 ⟨_,List.mem_of_getElem? kh.out,hpv⟩
   have kan:=ah.mk hany
   clear hany hpv
   repeat' (first|simp(maxSteps:=999999) (disch:=first|exact dZ|fail) only[gW,reduceIte,Nat.reduceEqDiff,beq_self_eq_true,tI,al,List.cons_append, *] | (refine dX ?_ ?_<;>(intro _;try omega)))
   exact⟨_,_,rfl,rfl,(i:Int),rfl,by rw[kan.out];simp⟩
  |false=>
   rw[hpv] at hc
   have kt2:(l.take (i+1)).any p=false:=kt.out.trans hpv
   clear hpv
   repeat' (first|simp(maxSteps:=999999) (disch:=first|exact dZ|fail) only[gW,reduceIte,Nat.reduceEqDiff,beq_self_eq_true,tI,al,List.cons_append, *] | (refine dX ?_ ?_<;>(intro _;try omega)))
   exact⟨l.length - (i+1),by omega,i+1,by omega,rfl,kt2,by simp⟩
 ·have:i=l.length:=by omega
  subst this
  have:=ka.out
  rw[List.take_length] at this
  have kan:=ah.mk this
  clear this
  repeat' (first|simp(maxSteps:=999999) (disch:=first|exact dZ|fail) only[gW,reduceIte,Nat.reduceEqDiff,beq_self_eq_true,tI, *] | (refine dX ?_ ?_<;>(intro _;try omega)))
  exact⟨_,_,rfl,rfl,-1,rfl,by rw[kan.out];rfl⟩
theorem pD(h167:pr 167=none)(h126:pr 126=none)(g:FuncId)(cap:List AV)(p:Int->Bool)(h:ae)(x:AV)(l:List Int)(hx:IL x l)(hl:l.length<=1000000)(hp:∀n∈l,(whole Tryz.prog Gt pr).call g (im n::cap) h=some (.ret (.v (.bool (p n))),h)):
 (whole Tryz.prog Gt pr).call 126 [x,.func (.func g) [] cap] h=some (.ret (.v (.bool (l.any p))),h):=by
 obtain⟨r,h',c,rfl,i,rfl,hi⟩:=Pq h167 g cap p h x l hx hl hp
 have hdec:decide (0<=i)=l.any p:=hi
 unfold im at c
 refine ar h126 Tryz.func126 rfl ?_
 clear hi hp
 repeat' (first|simp(maxSteps:=999999) (disch:=first|exact dZ|fail) only[gW,reduceIte,Nat.reduceEqDiff,beq_self_eq_true,NI, *] | (refine dX ?_ ?_<;>(intro _;try omega)))
theorem Ta(hpr:pr 159=none)(hadd:∀a b h,(whole Tryz.prog Gt pr).call 28 [im a,im b] h=some (.ret (im (cN a b)),h))(g:FuncId)(cap:List AV)(f:Nat->Int)(h:ae)(x:AV)(l:List Int)(hx:IL x l)(hl:l.length<=1000000)
 (hp:∀i,i<l.length->(whole Tryz.prog Gt pr).call g (im (i:Nat)::im (at0 l i)::cap) h=some (.ret (im (f i)),h)):
 ∃h',(whole Tryz.prog Gt pr).call 159 [x,.func (.func g) [] cap] h=some (.ret (im ((List.range l.length).foldl (fun x j=>cN x (f j)) 0)),h')/\h'=h:=by
 obtain⟨k,s,rfl,hs⟩:=hx
 have kp:=ah.mk (And.intro hp hs)
 clear hp hs
 have u23:=Tryz.underlying23
 have z3:=sz3
 have hil:=aU l
 unfold im
 refine dL hpr Tryz.func159 rfl ?_
 repeat' (first|simp(maxSteps:=999999) (disch:=first|exact dZ|fail) only[gW,reduceIte,Nat.reduceEqDiff,beq_self_eq_true,Ks, *] | (refine dX ?_ ?_<;>(intro _;try omega)))
 refine aD (fun m e H=>∃i:Nat,i<=l.length/\m=l.length - i/\e.get 1= .func (.func g) [] cap/\e.get 4= .v (.int .i64 ((List.range i).foldl (fun x j=>cN x (f j)) 0))/\e.get 7= .list k s (ints l)/\e.get 8= .v (.int .i64 (l.length:Nat))/\e.get 9= .v (.int .i64 (i:Nat))/\e.defers=[]/\H=h) ?_ l.length _ _ ?_
 rotate_left 1
 ·refine⟨0,Nat.zero_le _,rfl,?_,?_,?_,?_,?_,?_,rfl⟩<;>exact gR
 rintro m e H ⟨i,hi,rfl,g1,g4,g7,g8,g9,hd,rfl⟩
 by_cases hlt:i<l.length
 ·have hs1:s=1:=kp.out.2 (by intro q;rw[q] at hlt;simp at hlt)
  subst hs1
  have ld:=ldi (H:=H) (s:=1) hlt
  have hc:=kp.out.1 i hlt
  have ha:=fun v=>hadd v (f i) H
  have hltI:(i:Int)<(l.length:Int):=by omega
  have hst:cN ((List.range i).foldl (fun x j=>cN x (f j)) 0) (f i)=(List.range (i+1)).foldl (fun x j=>cN x (f j)) 0:=by rw[List.range_succ,List.foldl_append];rfl
  have kst:=ah.mk hst
  clear hst
  generalize (List.range i).foldl (fun x j=>cN x (f j)) 0=acc at *
  unfold im at hc ha
  repeat' (first|simp(maxSteps:=999999) (disch:=first|exact dZ|fail) only[gW,reduceIte,Nat.reduceEqDiff,beq_self_eq_true,Ks,al,List.cons_append, *] | (refine dX ?_ ?_<;>(intro _;try omega)))
  exact⟨l.length - (i+1),by omega,i+1,by omega,rfl,by trivial,by rw[kst.out],by simp⟩
 ·have:i=l.length:=by omega
  subst this
  repeat' (first|simp(maxSteps:=999999) (disch:=first|exact dZ|fail) only[gW,reduceIte,Nat.reduceEqDiff,beq_self_eq_true,Ks, *] | (refine dX ?_ ?_<;>(intro _;try omega)))
  exact⟨_,rfl,rfl⟩
end
theorem NP:Tryz.f157.results.toList=[.tmp 2]:=kZq
theorem RG:Tryz.f107.results.toList=[.tmp 2]:=kZq
theorem NQ:Tryz.f108.results.toList=[.tmp 2]:=kZq
theorem RH:Tryz.f110.results.toList=[.tmp 4]:=kZq
theorem RI:Tryz.f160.results.toList=[.tmp 5]:=kZq
theorem RJ:Tryz.f168.results.toList=[.tmp 2]:=kZq
theorem EN:Tryz.f129.results.toList=[.tmp 4]:=kZq
theorem Kt:Tryz.f130.results.toList=[.tmp 4]:=kZq
theorem Tb:Tryz.f57.results.toList=[.tmp 4]:=kZq
theorem Tc:Tryz.f77.results.toList=[.tmp 4]:=kZq
theorem ML(x n:Int)(h:ae):W4.call 57 [im x,im n] h=some (.ret (im (iL x n)),h):=by
 have c:=Kq x n
 unfold im at *
 refine ar rfl Tryz.func57 rfl ?_
 repeat' (first|simp(maxSteps:=999999) (disch:=first|exact dZ|fail) only[gW,reduceIte,Nat.reduceEqDiff,beq_self_eq_true,Tb, *] | (refine dX ?_ ?_<;>(intro _;try omega)))
theorem MM(x n:Int)(h:ae):W4.call 77 [im x,im n] h=some (.ret (im (iL x n)),h):=by
 have c:=Kq x n
 unfold im at *
 refine ar rfl Tryz.func77 rfl ?_
 repeat' (first|simp(maxSteps:=999999) (disch:=first|exact dZ|fail) only[gW,reduceIte,Nat.reduceEqDiff,beq_self_eq_true,Tc, *] | (refine dX ?_ ?_<;>(intro _;try omega)))
theorem MN(n:Int):pR n= !inQ n:=by
 unfold pR inQ Qi
 by_cases h0:n<0
 ·rw[decide_eq_true h0,decide_eq_false (show ¬0<=n by omega)];rfl
 ·by_cases h1:1073741789<=n
  ·rw[decide_eq_false h0,decide_eq_true h1,decide_eq_true (show 0<=n by omega),decide_eq_false (show ¬n<1073741789 by omega)];rfl
  ·rw[decide_eq_false h0,decide_eq_false h1,decide_eq_true (show 0<=n by omega),decide_eq_true (show n<1073741789 by omega)];rfl
theorem Ps(n:Int)(h:ae):W4.call 157 [im n] h=some (.ret (.v (.bool (pR n))),h):=by
 unfold im pR
 by_cases h0:n<0
 ·refine ar rfl Tryz.func157 rfl ?_
  have:decide (n<0)=true:=by simp[h0]
  repeat' (first|simp(maxSteps:=999999) (disch:=first|exact dZ|fail) only[gW,reduceIte,Nat.reduceEqDiff,beq_self_eq_true,NP,Bool.true_or, *] | (refine dX ?_ ?_<;>(intro _;try omega)))
 ·refine ar rfl Tryz.func157 rfl ?_
  have:decide (n<0)=false:=by simp[h0]
  repeat' (first|simp(maxSteps:=999999) (disch:=first|exact dZ|fail) only[gW,reduceIte,Nat.reduceEqDiff,beq_self_eq_true,NP,Bool.false_or, *] | (refine dX ?_ ?_<;>(intro _;try omega)))
theorem EO(l:List Int):(!l.any pR)=l.all inQ:=by
 induction l with
 |nil=>rfl
 |cons a l ih=>rw[List.any_cons,List.all_cons,<-ih,MN];simp
theorem vK(x:AV)(l:List Int)(hx:IL x l)(hl:l.length<=1000000)(h:ae):W4.call 107 [x] h=some (.ret (.v (.bool (l.all inQ))),h):=by
 have c:=pD (pr:=sP) rfl rfl 157 [] pR h x l hx hl (fun n _=>Ps n h)
 have hv:(!l.any pR)=l.all inQ:=EO l
 refine ar rfl Tryz.func107 rfl ?_
 clear hx
 repeat' (first|simp(maxSteps:=999999) (disch:=first|exact dZ|fail) only[gW,reduceIte,Nat.reduceEqDiff,beq_self_eq_true,RG, *] | (refine dX ?_ ?_<;>(intro _;try omega)))
theorem vL(h:ae)(x y:AV)(rows:List (List Int))(owners:List Int)(hx:RL x rows)(hy:IL y owners):∃h',W4.call 108 [.agg [x,y]] h=some (.ret (.v (.int .i64 (aK rows:Nat))),h')/\h'=h.push [x,y]:=by
 obtain⟨k,s,xs,rfl,hs,hxl,hxr⟩:=hx
 have bx:(AV.agg [.list k s (xs.map fun a=>[a]),y]).aC=some [.list k s (xs.map fun a=>[a]),y]:=by
  obtain⟨ky,sy,rfl,-⟩:=hy;rfl
 have l0:=tY (ak h [.list k s (xs.map fun a=>[a]),y])
 have u23:=Tryz.underlying23
 have u22:=Tryz.underlying22
 have z23:=jC
 have hil:(xs.map fun a=>[a]).length=rows.length:=by rw[List.length_map];exact hxl
 refine dL rfl Tryz.func108 rfl ?_
 by_cases h0:rows.length=0
 ·have hq:(rows.length:Int)=0:=by omega
  have hc:aK rows=1:=by unfold aK;rw[if_pos h0]
  rw[hc]
  clear h0 hxr hs hxl hc
  repeat' (first|simp(maxSteps:=999999) (disch:=first|exact dZ|fail) only[gW,reduceIte,Nat.reduceEqDiff,beq_self_eq_true,NQ,aw,bH, *] | (refine dX ?_ ?_<;>(intro _;try omega)))
  exact⟨_,rfl,rfl⟩
 ·have hq:¬((rows.length:Int)=0):=by omega
  obtain⟨a0,hav0⟩:∃a,xs[0]?=some a:=⟨_,List.getElem?_eq_getElem (by omega)⟩
  obtain⟨r0,hv0⟩:∃r,rows[0]?=some r:=⟨_,List.getElem?_eq_getElem (by omega)⟩
  have hs1:s=1:=hs (by intro q;rw[q] at h0;simp at h0)
  subst hs1
  have ld0:=ldr (H:=h.push [.list k 1 (xs.map fun a=>[a]),y]) (s:=1) hav0
  obtain⟨ka0,sa0,rfl,hsa0⟩:=hxr 0 a0 r0 hav0 hv0
  have hc:aK rows=r0.length:=by
   unfold aK
   rw[if_neg h0,List.getD_eq_getElem?_getD,hv0];rfl
  rw[hc]
  have hrl:=aU r0
  have h0I:(0:Int)<(rows.length:Int):=by omega
  have z0:(0:Int).toNat=0:=rfl
  clear h0 hxr hs hxl hc hav0 hv0 hsa0
  repeat' (first|simp(maxSteps:=999999) (disch:=first|exact dZ|fail) only[gW,reduceIte,Nat.reduceEqDiff,beq_self_eq_true,NQ,aw,bH,al, *] | (refine dX ?_ ?_<;>(intro _;try omega)))
  exact⟨_,rfl,rfl⟩
theorem Ku(h:ae)(b i:Nat)(n:Int)(y:AV)(l:List Int)(hb:h.boxes[b]?=some [y])(hy:IL y l)(hi:i<l.length):W4.call 160 [im (i:Nat),im n,.ptr (.box b) 0] h=some (.ret (im (cq n (at0 l i))),h):=by
 obtain⟨k,s,rfl,hs⟩:=hy
 have hs1:s=1:=hs (by intro q;rw[q] at hi;simp at hi)
 subst hs1
 have l1:=vD hb
 have ld:=ldi (H:=h) (s:=1) hi
 have u23:=Tryz.underlying23
 have z3:=sz3
 have hil:=aU l
 have hiI:(i:Int)<(l.length:Int):=by omega
 have c:=RE n (at0 l i)
 unfold im at *
 clear hs hb
 refine ar rfl Tryz.func160 rfl ?_
 repeat' (first|simp(maxSteps:=999999) (disch:=first|exact dZ|fail) only[gW,reduceIte,Nat.reduceEqDiff,beq_self_eq_true,RI,al, *] | (refine dX ?_ ?_<;>(intro _;try omega)))
theorem Kv(h:ae)(x y:AV)(a b:List Int)(hx:IL x a)(hy:IL y b)(hl:a.length<=1000000)(hab:a.length<=b.length):∃h',W4.call 110 [x,y] h=some (.ret (im (oa a b)),h')/\h'=h.push [y]:=by
 obtain⟨_,c,rfl⟩:=Ta (pr:=sP) rfl (fun a b h=>RD a b h) 160 [.ptr (.box h.boxes.length) 0] (fun i=>cq (at0 a i) (at0 b i)) (h.push [y]) x a hx hl (fun i hi=>Ku (h.push [y]) h.boxes.length i (at0 a i) y b (ak _ _) hy (by omega))
 have cy:y.aC=some [y]:=by obtain⟨k,s,rfl,-⟩:=hy;rfl
 have e:(List.range a.length).foldl (fun x j=>cN x (cq (at0 a j) (at0 b j))) 0=oa a b:=rfl
 rw[e] at c
 unfold im at *
 clear hx hy e
 refine dL rfl Tryz.func110 rfl ?_
 repeat' (first|simp(maxSteps:=999999) (disch:=first|exact dZ|fail) only[gW,reduceIte,Nat.reduceEqDiff,beq_self_eq_true,RH,aw, *] | (refine dX ?_ ?_<;>(intro _;try omega)))
 exact⟨_,rfl,rfl⟩
theorem Kw(n:Int)(h:ae):W4.call 168 [im n] h=some (.ret (.v (.bool (!aX n))),h):=by
 have c:=Kp n
 unfold im at *
 refine ar rfl Tryz.func168 rfl ?_
 repeat' (first|simp(maxSteps:=999999) (disch:=first|exact dZ|fail) only[gW,reduceIte,Nat.reduceEqDiff,beq_self_eq_true,RJ, *] | (refine dX ?_ ?_<;>(intro _;try omega)))
theorem EP(p:Int->Bool)(l:List Int):(l.any fun n=> !p n)= !l.all p:=by
 induction l with
 |nil=>rfl
 |cons a l ih=>rw[List.any_cons,List.all_cons,ih];simp
theorem gL:Tryz.f115.results.toList=[.tmp 2]:=kZq
theorem Hj(h:ae)(x y:AV)(rows:List (List Int))(owners:List Int)(hx:RL x rows)(hy:IL y owners)(hrl:rows.length<=1000000):
 ∃r h',W4.call 115 [.agg [x,y]] h=some (r,h')/\h'=h.push [x,y]/\r= .ret (.v (.int .i64 (bC rows owners))):=by
 obtain⟨k,s,xs,rfl,hs,hxl,hxr⟩:=hx
 obtain⟨ky,sy,rfl,hsy⟩:=hy
 have kk:=ah.mk (And.intro hs (And.intro hxr hsy))
 clear hs hxr hsy
 have u23:=Tryz.underlying23
 have u22:=Tryz.underlying22
 have z23:=jC
 have z3:=sz3
 have hil:(xs.map fun a=>[a]).length=rows.length:=by rw[List.length_map];exact hxl
 have hol:=aU owners
 have b0:(h.push [.list k s (xs.map fun a=>[a]),.list ky sy (ints owners)]).boxes[h.boxes.length]?=some [.list k s (xs.map fun a=>[a]),.list ky sy (ints owners)]:=ak _ _
 have l0:=tY b0
 have l1:=MG b0
 have bx:(AV.agg [.list k s (xs.map fun a=>[a]),.list ky sy (ints owners)]).aC=some [.list k s (xs.map fun a=>[a]),.list ky sy (ints owners)]:=rfl
 clear b0
 have k1:ah (64<rows.length->bC rows owners=2):=⟨fun q=>by unfold bC;rw[if_pos (by simp[q])]⟩
 have k2:ah (∀(i:Nat) r,rows[i]?=some r->64<r.length->bC rows owners=2):=⟨fun i r hr q=>by
  unfold bC
  rw[if_pos]
  rw[Bool.or_eq_true]
  exact .inr (List.any_eq_true.2 ⟨r,List.mem_of_getElem? hr,by simp[q]⟩)⟩
 have k3:ah (rows.length<=64->(rows.any fun r=>decide (64<r.length))=false->rows.length≠owners.length->bC rows owners=230):=⟨fun q1 q2 q3=>by
  unfold bC
  rw[if_neg (by rw[q2];simp;omega),if_pos q3]⟩
 have k4:ah (rows.length<=64->(rows.any fun r=>decide (64<r.length))=false->rows.length=owners.length->bC rows owners=if ((List.range rows.length).all (mT rows owners))=true then (0:Int) else 230):=⟨fun q1 q2 q3=>by
  unfold bC
  rw[if_neg (by rw[q2];simp;omega),if_neg (by simpa using q3)];rfl⟩
 generalize bC rows owners=res at *
 obtain⟨H,hH⟩:∃H,h.push [.list k s (xs.map fun a=>[a]),.list ky sy (ints owners)]=H:=⟨_,rfl⟩
 rw[hH] at l0 l1
 rw[hH]
 refine aL rfl Tryz.func115 rfl ?_
 by_cases h1:64<rows.length
 ·have hq:((64:Int)<(rows.length:Int)):=by omega
  have kr:=ah.mk (k1.out h1)
  clear h1
  repeat' (first|simp(maxSteps:=999999) (disch:=first|exact dZ|fail) only[gW,reduceIte,Nat.reduceEqDiff,beq_self_eq_true,gL,bH,cW,aw,hH, *] | (refine dX ?_ ?_<;>(intro _;try omega)))
  exact⟨_,_,rfl,rfl,by rw[kr.out]⟩
 have hq:¬((64:Int)<(rows.length:Int)):=by omega
 have h64:rows.length<=64:=by omega
 repeat' (first|simp(maxSteps:=999999) (disch:=first|exact dZ|fail) only[gW,reduceIte,Nat.reduceEqDiff,beq_self_eq_true,gL,bH,cW,aw,hH, *] | (refine dX ?_ ?_<;>(intro _;try omega)))
 refine Run.gen fun e0 he0 hd0 hp0 hr0=>?_
 have f1:e0.get 1= .ptr (.box h.boxes.length) 0:=by rw[he0];exact gS
 have f3:e0.get 3= .v (.int .i64 (0:Nat)):=by rw[he0];exact gR
 have fd:e0.defers=[]:=by rw[hd0];exact gS
 clear he0 hd0 hp0 hr0 bx hq h1 hH
 refine aD (fun m e H2=>∃i:Nat,i<=rows.length/\m=rows.length - i/\ah (((rows.take i).any fun r=>decide (64<r.length))=false)/\e.get 1= .ptr (.box h.boxes.length) 0/\e.get 3= .v (.int .i64 (i:Nat))/\e.defers=[]/\H2=H) ?_ rows.length _ _ ?_
 rotate_left 1
 ·exact⟨0,Nat.zero_le _,rfl,⟨by simp⟩,f1,f3,fd,rfl⟩
 clear f1 f3 fd
 rintro m e H ⟨i,hi,rfl,kt,g1,g3,hd,rfl⟩
 by_cases hlt:i<rows.length
 ·have hs1:s=1:=kk.out.1 (by intro q;rw[q] at hlt;simp at hlt)
  subst hs1
  obtain⟨a,hav⟩:∃a,xs[i]?=some a:=⟨_,List.getElem?_eq_getElem (by omega)⟩
  obtain⟨r,hv⟩:∃r,rows[i]?=some r:=⟨_,List.getElem?_eq_getElem hlt⟩
  have ld:=ldr (H:=H) (s:=1) hav
  obtain⟨ka,sa,rfl,hsa⟩:=kk.out.2.1 i a r hav hv
  have hrl2:=aU r
  have hltI:(i:Int)<(rows.length:Int):=by omega
  by_cases hb:64<r.length
  ·have hbI:((64:Int)<(r.length:Int)):=by omega
   have kr:=ah.mk (k2.out i r hv hb)
   clear hav hv hsa hb
   repeat' (first|simp(maxSteps:=999999) (disch:=first|exact dZ|fail) only[gW,reduceIte,Nat.reduceEqDiff,beq_self_eq_true,gL,bH,cW,al, *] | (refine dX ?_ ?_<;>(intro _;try omega)))
   exact⟨_,_,rfl,rfl,by rw[kr.out]⟩
  ·have hbI:¬((64:Int)<(r.length:Int)):=by omega
   have kt2:ah (((rows.take (i+1)).any fun r=>decide (64<r.length))=false):=⟨by rw[a9 hv,List.any_append,kt.out];simp;omega⟩
   clear hav hv hsa hb
   repeat' (first|simp(maxSteps:=999999) (disch:=first|exact dZ|fail) only[gW,reduceIte,Nat.reduceEqDiff,beq_self_eq_true,gL,bH,cW,al, *] | (refine dX ?_ ?_<;>(intro _;try omega)))
   exact⟨rows.length - (i+1),by omega,i+1,by omega,rfl,kt2,by simp⟩
 have hie:i=rows.length:=by omega
 subst hie
 have hany:=kt.out
 rw[List.take_length] at hany
 have kany:=ah.mk hany
 clear hany kt hi
 by_cases h3:rows.length=owners.length
 rotate_left 1
 ·have kr:=ah.mk (k3.out h64 kany.out h3)
  have hn:¬((rows.length:Int)=(owners.length:Int)):=by omega
  clear h3
  repeat' (first|simp(maxSteps:=999999) (disch:=first|exact dZ|fail) only[gW,reduceIte,Nat.reduceEqDiff,beq_self_eq_true,gL,bH,cW, *] | (refine dX ?_ ?_<;>(intro _;try omega)))
  exact⟨_,_,rfl,rfl,by rw[kr.out]⟩
 have kres:=ah.mk (k4.out h64 kany.out h3)
 have kn:=ah.mk h3
 have hn:(owners.length:Int)=(rows.length:Int):=by omega
 clear h3
 repeat' (first|simp(maxSteps:=999999) (disch:=first|exact dZ|fail) only[gW,reduceIte,Nat.reduceEqDiff,beq_self_eq_true,gL,bH,cW, *] | (refine dX ?_ ?_<;>(intro _;try omega)))
 refine Run.gen fun e0 he0 hd0 hp0 hr0=>?_
 have f1:e0.get 1= .ptr (.box h.boxes.length) 0:=by rw[he0];simp only[gW,reduceIte,Nat.reduceEqDiff,beq_self_eq_true];exact g1
 have f4:e0.get 4= .v (.int .i64 (0:Nat)):=by rw[he0];exact gR
 have fd:e0.defers=[]:=by rw[hd0];simp only[gW,reduceIte,Nat.reduceEqDiff,beq_self_eq_true];exact hd
 clear he0 hd0 hp0 hr0 g1 g3 hd hlt
 refine aD (fun m e H2=>∃i:Nat,i<=rows.length/\m=rows.length - i/\ah (∀j,j<i->mT rows owners j=true)/\e.get 1= .ptr (.box h.boxes.length) 0/\e.get 4= .v (.int .i64 (i:Nat))/\e.defers=[]/\H2=H) ?_ rows.length _ _ ?_
 rotate_left 1
 ·exact⟨0,Nat.zero_le _,rfl,⟨fun j hj=>absurd hj (Nat.not_lt_zero _)⟩,f1,f4,fd,rfl⟩
 clear f1 f4 fd
 rintro m e H3 ⟨i,hi,rfl,kf,g1,g4,hd,rfl⟩
 by_cases hlt:i<rows.length
 rotate_left 1
 ·have hie:i=rows.length:=by omega
  subst hie
  have k0:ah (res=0):=⟨by
   rw[kres.out,if_pos]
   rw[List.all_eq_true]
   intro j hj
   exact kf.out j (List.mem_range.1 hj)⟩
  repeat' (first|simp(maxSteps:=999999) (disch:=first|exact dZ|fail) only[gW,reduceIte,Nat.reduceEqDiff,beq_self_eq_true,gL,bH,cW, *] | (refine dX ?_ ?_<;>(intro _;try omega)))
  exact⟨_,_,rfl,rfl,by rw[k0.out]⟩
 have hs1:s=1:=kk.out.1 (by intro q;rw[q] at hlt;simp at hlt)
 subst hs1
 have hs2:sy=1:=kk.out.2.2 (by intro q;have h0:=kn.out;rw[q,List.length_nil] at h0;omega)
 subst hs2
 obtain⟨a,hav⟩:∃a,xs[i]?=some a:=⟨_,List.getElem?_eq_getElem (by omega)⟩
 obtain⟨r,hv⟩:∃r,rows[i]?=some r:=⟨_,List.getElem?_eq_getElem hlt⟩
 obtain⟨a0,hav0⟩:∃a,xs[0]?=some a:=⟨_,List.getElem?_eq_getElem (by omega)⟩
 obtain⟨r0,hv0⟩:∃r,rows[0]?=some r:=⟨_,List.getElem?_eq_getElem (by omega)⟩
 have ld:=ldr (H:=H3) (s:=1) hav
 have ld0:=ldr (H:=H3) (s:=1) hav0
 obtain⟨ka,sa,rfl,hsa⟩:=kk.out.2.1 i a r hav hv
 obtain⟨ka0,sa0,rfl,hsa0⟩:=kk.out.2.1 0 a0 r0 hav0 hv0
 have hrl1:=aU r
 have hrl0:=aU r0
 have ldo:=ldi (H:=H3) (l:=owners) (i:=i) (s:=1) (by have:=kn.out;omega)
 have hfin:mT rows owners i=(!r.isEmpty&&decide (r.length=r0.length)&&iR (at0 owners i)&&r.all inQ):=by
  unfold mT iR
  have g1:rows.getD i []=r:=by rw[List.getD_eq_getElem?_getD,hv];rfl
  have g2:rows.getD 0 []=r0:=by rw[List.getD_eq_getElem?_getD,hv0];rfl
  rw[g1,g2]
 have kfin:=ah.mk hfin
 have kbad:ah (mT rows owners i=false->res=230):=⟨by
  intro q
  rw[kres.out,if_neg]
  intro z
  rw[List.all_eq_true] at z
  have:=z i (List.mem_range.2 hlt)
  rw[q] at this;cases this⟩
 have hltI:(i:Int)<(rows.length:Int):=by omega
 have h0I:(0:Int)<(rows.length:Int):=by omega
 have z0:(0:Int).toNat=0:=rfl
 have ks:=ah.mk hsa
 have hbig:r.length<=64:=by
  have q:=kany.out
  rw[List.any_eq_false] at q
  have:=q r (List.mem_of_getElem? hv)
  simpa using this
 clear hfin hav hv hsa hav0 hv0 hsa0
 generalize at0 owners i=o at *
 by_cases e1:r.length=0
 ·have hq1:decide ((r.length:Int)<1)=true:=decide_eq_true (by omega)
  have kb:ah (res=230):=⟨kbad.out (by rw[kfin.out,List.length_eq_zero_iff.1 e1];rfl)⟩
  clear e1
  repeat' (first|simp(maxSteps:=999999) (disch:=first|exact dZ|fail) only[gW,reduceIte,Nat.reduceEqDiff,beq_self_eq_true,gL,bH,cW,al, *] | (refine dX ?_ ?_<;>(intro _;try omega)))
  refine bf Bz kZq ?_
  repeat' (first|simp(maxSteps:=999999) (disch:=first|exact dZ|fail) only[gW,reduceIte,Nat.reduceEqDiff,beq_self_eq_true,gL,bH,cW,al, *] | (refine dX ?_ ?_<;>(intro _;try omega)))
  exact⟨_,_,rfl,rfl,by rw[kb.out]⟩
 have hq1:decide ((r.length:Int)<1)=false:=decide_eq_false (by omega)
 have he1:r.isEmpty=false:=by cases r with|nil=>exact absurd rfl e1|cons _ _=>rfl
 clear e1
 by_cases e2:r.length=r0.length
 rotate_left 1
 ·have hq2:decide ((r.length:Int)=(r0.length:Int))=false:=decide_eq_false (by omega)
  have kb:ah (res=230):=⟨kbad.out (by rw[kfin.out,he1,decide_eq_false e2];rfl)⟩
  clear e2 he1
  repeat' (first|simp(maxSteps:=999999) (disch:=first|exact dZ|fail) only[gW,reduceIte,Nat.reduceEqDiff,beq_self_eq_true,gL,bH,cW,al, *] | (refine dX ?_ ?_<;>(intro _;try omega)))
  refine bf Bz kZq ?_
  repeat' (first|simp(maxSteps:=999999) (disch:=first|exact dZ|fail) only[gW,reduceIte,Nat.reduceEqDiff,beq_self_eq_true,gL,bH,cW,al, *] | (refine dX ?_ ?_<;>(intro _;try omega)))
  exact⟨_,_,rfl,rfl,by rw[kb.out]⟩
 have hq2:decide ((r.length:Int)=(r0.length:Int))=true:=decide_eq_true (by omega)
 have ke2:=ah.mk e2
 clear e2
 by_cases e3:o<0
 ·have hq3:decide (o<0)=true:=decide_eq_true e3
  have kb:ah (res=230):=⟨kbad.out (by rw[kfin.out];unfold iR;rw[decide_eq_false (show ¬0<=o by omega)];simp)⟩
  clear e3 he1
  repeat' (first|simp(maxSteps:=999999) (disch:=first|exact dZ|fail) only[gW,reduceIte,Nat.reduceEqDiff,beq_self_eq_true,gL,bH,cW,al, *] | (refine dX ?_ ?_<;>(intro _;try omega)))
  refine bf Bz kZq ?_
  repeat' (first|simp(maxSteps:=999999) (disch:=first|exact dZ|fail) only[gW,reduceIte,Nat.reduceEqDiff,beq_self_eq_true,gL,bH,cW,al, *] | (refine dX ?_ ?_<;>(intro _;try omega)))
  exact⟨_,_,rfl,rfl,by rw[kb.out]⟩
 have hq3:decide (o<0)=false:=decide_eq_false e3
 by_cases e4:64<=o
 ·have hq4:decide (64<=o)=true:=decide_eq_true e4
  have kb:ah (res=230):=⟨kbad.out (by rw[kfin.out];unfold iR;rw[decide_eq_false (show ¬o<=63 by omega)];simp)⟩
  clear e3 e4 he1
  repeat' (first|simp(maxSteps:=999999) (disch:=first|exact dZ|fail) only[gW,reduceIte,Nat.reduceEqDiff,beq_self_eq_true,gL,bH,cW,al, *] | (refine dX ?_ ?_<;>(intro _;try omega)))
  refine bf Bz kZq ?_
  repeat' (first|simp(maxSteps:=999999) (disch:=first|exact dZ|fail) only[gW,reduceIte,Nat.reduceEqDiff,beq_self_eq_true,gL,bH,cW,al, *] | (refine dX ?_ ?_<;>(intro _;try omega)))
  exact⟨_,_,rfl,rfl,by rw[kb.out]⟩
 have hq4:decide (64<=o)=false:=decide_eq_false e4
 have kfin2:ah (mT rows owners i=r.all inQ):=⟨by
  rw[kfin.out,he1,decide_eq_true ke2.out]
  unfold iR
  rw[decide_eq_true (show 0<=o by omega),decide_eq_true (show o<=63 by omega)];rfl⟩
 clear e3 e4 he1
 repeat' (first|simp(maxSteps:=999999) (disch:=first|exact dZ|fail) only[gW,reduceIte,Nat.reduceEqDiff,beq_self_eq_true,gL,bH,cW,al, *] | (refine dX ?_ ?_<;>(intro _;try omega)))
 refine bf Bz kZq ?_
 repeat' (first|simp(maxSteps:=999999) (disch:=first|exact dZ|fail) only[gW,reduceIte,Nat.reduceEqDiff,beq_self_eq_true,gL,bH,cW,al, *] | (refine dX ?_ ?_<;>(intro _;try omega)))
 refine Run.gen fun e0 he0 hd0 hp0 hr0=>?_
 have f1:e0.get 1= .ptr (.box h.boxes.length) 0:=by rw[he0];simp only[gW,reduceIte,Nat.reduceEqDiff,beq_self_eq_true];exact g1
 have f4:e0.get 4= .v (.int .i64 (i:Nat)):=by rw[he0];simp only[gW,reduceIte,Nat.reduceEqDiff,beq_self_eq_true];exact g4
 have f5:e0.get 5= .v (.int .i64 (0:Nat)):=by rw[he0];exact gR
 have fd:e0.defers=[]:=by rw[hd0];simp only[gW,reduceIte,Nat.reduceEqDiff,beq_self_eq_true];exact hd
 clear he0 hd0 hp0 hr0 g1 g4 hd
 refine aD (fun m e H2=>∃j:Nat,j<=r.length/\m=r.length - j/\ah ((r.take j).all inQ=true)/\e.get 1= .ptr (.box h.boxes.length) 0/\e.get 4= .v (.int .i64 (i:Nat))/\e.get 5= .v (.int .i64 (j:Nat))/\e.defers=[]/\H2=H3) ?_ r.length _ _ ?_
 rotate_left 1
 ·exact⟨0,Nat.zero_le _,rfl,⟨by simp⟩,f1,f4,f5,fd,rfl⟩
 clear f1 f4 f5 fd hq1 hq2 hq3 hq4 ldo ld0
 rintro m e H4 ⟨j,hj,rfl,ka4,g1,g4,g5,hd,rfl⟩
 by_cases hlt2:j<r.length
 ·have hs3:sa=1:=ks.out (by intro q;rw[q] at hlt2;simp at hlt2)
  subst hs3
  have ldx:=ldi (H:=H4) (s:=1) hlt2
  have hv2:r[j]?=some (at0 r j):=by rw[List.getElem?_eq_getElem hlt2,bN hlt2]
  have hltJ:(j:Int)<(r.length:Int):=by omega
  have htake:(r.take (j+1)).all inQ=inQ (at0 r j):=by rw[a9 hv2,List.all_append,ka4.out];simp
  have kt5:=ah.mk (And.intro htake (List.mem_of_getElem? hv2))
  have hqq:inQ (at0 r j)=(decide (0<=at0 r j)&&decide (at0 r j<1073741789)):=rfl
  have kqq:=ah.mk hqq
  clear hv2 htake hqq
  generalize at0 r j=n at *
  by_cases d1:n<0
  ·have hd1:decide (n<0)=true:=decide_eq_true d1
   have kb:ah (res=230):=⟨kbad.out (by rw[kfin2.out,List.all_eq_false];exact⟨n,kt5.out.2,by rw[kqq.out,decide_eq_false (show ¬0<=n by omega)];simp⟩)⟩
   clear d1
   repeat' (first|simp(maxSteps:=999999) (disch:=first|exact dZ|fail) only[gW,reduceIte,Nat.reduceEqDiff,beq_self_eq_true,gL,bH,cW,al, *] | (refine dX ?_ ?_<;>(intro _;try omega)))
   exact⟨_,_,rfl,rfl,by rw[kb.out]⟩
  have hd1:decide (n<0)=false:=decide_eq_false d1
  by_cases d2:1073741789<=n
  ·have hd2:decide (1073741789<=n)=true:=decide_eq_true d2
   have kb:ah (res=230):=⟨kbad.out (by rw[kfin2.out,List.all_eq_false];exact⟨n,kt5.out.2,by rw[kqq.out,decide_eq_false (show ¬n<1073741789 by omega)];simp⟩)⟩
   clear d1 d2
   repeat' (first|simp(maxSteps:=999999) (disch:=first|exact dZ|fail) only[gW,reduceIte,Nat.reduceEqDiff,beq_self_eq_true,gL,bH,cW,al, *] | (refine dX ?_ ?_<;>(intro _;try omega)))
   exact⟨_,_,rfl,rfl,by rw[kb.out]⟩
  have hd2:decide (1073741789<=n)=false:=decide_eq_false d2
  have kt2:ah ((r.take (j+1)).all inQ=true):=⟨by rw[kt5.out.1,kqq.out,decide_eq_true (show 0<=n by omega),decide_eq_true (show n<1073741789 by omega)];rfl⟩
  clear d1 d2
  repeat' (first|simp(maxSteps:=999999) (disch:=first|exact dZ|fail) only[gW,reduceIte,Nat.reduceEqDiff,beq_self_eq_true,gL,bH,cW,al, *] | (refine dX ?_ ?_<;>(intro _;try omega)))
  exact⟨r.length - (j+1),by omega,j+1,by omega,rfl,kt2,by simp⟩
 ·have hje:j=r.length:=by omega
  subst hje
  have hall:=ka4.out
  rw[List.take_length] at hall
  have kf2:ah (∀j,j<i+1->mT rows owners j=true):=⟨fun j hj=>by
   rcases Nat.lt_succ_iff_lt_or_eq.1 hj with q|q
   ·exact kf.out j q
   ·rw[q,kfin2.out];exact hall⟩
  clear hall
  repeat' (first|simp(maxSteps:=999999) (disch:=first|exact dZ|fail) only[gW,reduceIte,Nat.reduceEqDiff,beq_self_eq_true,gL,bH,cW,al, *] | (refine dX ?_ ?_<;>(intro _;try omega)))
  exact⟨rows.length - (i+1),by omega,i+1,by omega,rfl,kf2,by simp⟩
end Go.Proofs.YtnfciiiohoafaaaGreatDoor
end
section
namespace Go.AE
open Go.RowKit (Below)
def qc(z:Nat)(cs:List AV)(off len:Nat):List (List AV):=(List.range len).map fun i=>(cs.drop (off+i * z)).take z
theorem nJ(z:Nat)(cs:List AV)(off:Nat):∀len,(qc z cs off len).flatten=(cs.drop off).take (len * z)
 |0=>by simp[qc]
 |n+1=>by
  have ih:=nJ z cs off n
  unfold qc at *
  rw[List.range_succ,List.map_append,List.flatten_append,ih,Nat.add_mul,Nat.one_mul,List.take_add,List.drop_drop]
  simp
theorem Hk(z:Nat)(cs:List AV)(off len:Nat):(qc z cs off len).length=len:=by unfold qc;simp
theorem DP{z:Nat}{cs:List AV}{off len:Nat}(h:off+len * z<=cs.length):∀r∈qc z cs off len,r.length=z:=by
 intro r hr
 unfold qc at hr
 obtain⟨i,hi,rfl⟩:=List.mem_map.1 hr
 have hi:=List.mem_range.1 hi
 have:(i+1) * z<=len * z:=Nat.mul_le_mul_right _ hi
 rw[Nat.add_mul] at this
 rw[List.length_take,List.length_drop];omega
mutual
def jh(z:Nat)(h:ae):AV->AV
 | .list k sz es=> .list (di k) sz (qG z h es)
 | .arr b off len cap=>match h.boxes[b]? with
  |some cs=>if off+len * z<=cs.length/\0<z then .list .held z (eF (qc z cs off len)) else .arr b off len cap
  |none=> .arr b off len cap
 | .tuple cs=> .tuple (j3 z h cs)
 | .agg cs=> .agg (j3 z h cs)
 | .iface t x=> .iface t (jh z h x)
 |x=>x
def j3(z:Nat)(h:ae):List AV->List AV
 | []=>[]
 |x::r=>jh z h x::j3 z h r
def qG(z:Nat)(h:ae):List (List AV)->List (List AV)
 | []=>[]
 |r::rs=>j3 z h r::qG z h rs
end
section
variable {z:Nat} {h:ae}
theorem BA:∀a b:List AV,j3 z h (a++b)=j3 z h a++j3 z h b
 | [],b=>rfl
 |x::a,b=>by rw[List.cons_append,j3,BA a b,j3,List.cons_append]
theorem pE:∀es:List (List AV),(qG z h es).flatten=j3 z h es.flatten
 | []=>rfl
 |r::es=>by rw[qG,List.flatten_cons,List.flatten_cons,BA,pE es]
theorem BB:∀a:List AV,(j3 z h a).length=a.length
 | []=>rfl
 |x::a=>by rw[j3,List.length_cons,BB a,List.length_cons]
theorem BC:∀a:List (List AV),(qG z h a).length=a.length
 | []=>rfl
 |x::a=>by rw[qG,List.length_cons,BC a,List.length_cons]
theorem xT{sz:Nat}:∀{es:List (List AV)},(∀r∈es,r.length=sz)->∀r∈qG z h es,r.length=sz
 | [],_,r,hr=>by cases hr
 |a::es,hh,r,hr=>by
  rw[qG] at hr
  rcases List.mem_cons.1 hr with rfl|hr
  ·rw[BB];exact hh a List.mem_cons_self
  ·exact xT (fun r hr=>hh r (List.mem_cons_of_mem _ hr)) r hr
theorem Kx(x:AV):(jh z h x).bu=x.bu:=by
 cases x with
 |arr b off len cap=>
  rw[jh]
  split
  ·split<;>rfl
  ·rfl
 |_=>rfl
theorem vM:∀a:List AV,(j3 z h a).all AV.bu=a.all AV.bu
 | []=>rfl
 |x::a=>by rw[j3,List.all_cons,Kx,vM a,List.all_cons]
end
section
variable {P:Program} {G:Nat->Option (List AV)} {ok:FuncId->Nat->Code->Bool} {w0 w w':World} {K:aB} {h:ae} {z:Nat}
def aB.still(K:aB)(w:World):aB:={K with base:=w.heap.size,β:=[],γ:=[],tn:=0,md:=[],ic:=fun g j=>w.cell? ⟨g,j,none⟩}
theorem mU(s:Sim K G ok w0 h w):∀g j c,K.ic g j=some c->(K.still w).ic g j=some c:=s.ic
mutual
theorem aI.frz(s:Sim K G ok w0 h w):∀{x:AV} {c:Value},aI K x c->aV 0 0 0 (jh z h x)=true->aI (K.still w) (jh z h x) c
 |_,_,.bad c,_=> .bad c
 |_,_,.v x hx,_=> .v x hx
 |_,_,.nil sz,_=> .nil sz
 |_,_,.eK sz a,_=> .eK sz a
 |_,_,.list k sz es g off m cap cells hn hr hv hc ht ha,hf=>by
  simp only[jh,aV,Bool.and_eq_true] at hf
  have hv2:=ao.frz s hv (by rw[<-pE,eL];exact hf.2)
  rw[<-pE] at hv2
  have hn2:m=(qG z h es).length:=by rw[BC];exact hn
  have ha2:(qG z h es).flatten.all AV.bu=true:=by rw[pE,vM];exact ha
  have hr2:=xT (z:=z) (h:=h) hr
  have hc2:=fun j c hj=>s.ic _ _ _ (hc j c hj)
  cases k with
  |nil=>exact ht.2.elim
  |tight=>exact .list .tight sz _ g off m cap cells hn2 hr2 hv2 hc2 ⟨ht.1,ht.2⟩ ha2
  |free i=>exact .list .held sz _ g off m cap cells hn2 hr2 hv2 hc2 ⟨ht.1,trivial⟩ ha2
  |held=>exact .list .held sz _ g off m cap cells hn2 hr2 hv2 hc2 ⟨ht.1,trivial⟩ ha2
 |_,_,.arr b g off len cap off' cap' hb hl hcc ho hr,hf=>by
  simp only[jh] at hf ⊢
  cases hcs:h.boxes[b]? with
  |none=>
   rw[hcs] at hf
   simp[aV] at hf
  |some cs=>
   rw[hcs] at hf
   simp only at hf ⊢
   split at hf
   ·rename_i hle
    rw[if_pos hle]
    obtain⟨hle,hz⟩:=hle
    obtain⟨q1,q2,q3,cells,e,q4,q5⟩:=s.box b g cs hb hcs
    have hle2:=q5.le
    by_cases h0:cap=0
    ·have:len=0:=by omega
     subst this
     exact .list .held z [] g off' 0 cap' [] rfl (fun _ h=>by cases h) .nil (fun _ _ h=>by simp at h) ⟨Nat.zero_le _,trivial⟩ rfl
    ·have hoff:off'=off:=by rcases ho with p|p<;>omega
     subst hoff
     have hv:ao K ((cs.drop off').take (len * z)) (((cells.toList.take cs.length).drop off').take (len * z)):=(q5.1.drop off').take (len * z)
     have hv2:=ao.lJ (K2:=K.still w) (mU s) (ao.hold hv) (by
      simp only[aV,Bool.and_eq_true] at hf
      have:=hf.2
      rw[<-eL,je,nJ] at this
      exact this)
     rw[<-nJ,<-je] at hv2
     refine .list .held z _ g off' len cap' (((cells.toList.take cs.length).drop off').take (len * z)) (by rw[mH,Hk]) (nt (DP hle)) hv2 (fun j c hj=>?_) ⟨by omega,trivial⟩ ?_
     ·have hjl:j<len * z:=by
       have:=(List.getElem?_eq_some_iff.1 hj).1
       rw[List.length_take] at this;omega
      rw[List.getElem?_take,if_pos hjl,List.getElem?_drop,List.getElem?_take,if_pos (by omega)] at hj
      show w.cell? ⟨g,off'+j,none⟩=some c
      rw[fO q4]
      simpa using hj
     ·rw[je,oG,nJ]
      rw[List.all_eq_true] at q3 ⊢
      exact fun x hx=>q3 x (List.mem_of_mem_drop (List.mem_of_mem_take hx))
   ·simp[aV] at hf
 |_,_,.agg cs vs hv,hf=> .agg _ vs (ao.frz s hv (by simpa only[jh,aV] using hf))
 |_,_,.tuple cs vs hv,hf=> .tuple _ vs (ao.frz s hv (by simpa only[jh,aV] using hf))
 |_,_,.box b g off hb,hf=>by simp[jh,aV] at hf
 |_,_,.dW g off,_=> .dW g off
 |_,_,.elem sz es i off g o p cells hr hv hc hi hp ha,hf=> .elem sz es i off g o p cells hr (ao.lJ (mU s) hv (by rw[eL];simpa only[jh,aV] using hf)) (fun j c hj=>s.ic _ _ _ (hc j c hj)) hi hp ha
 |_,_,.func fn first cap fs cs h1 h2,hf=>by
  simp only[jh,aV,Bool.and_eq_true] at hf
  exact .func fn first cap fs cs (ao.lJ (mU s) h1 hf.1) (ao.lJ (mU s) h2 hf.2)
 |_,_,.yield l g hl,hf=>by simp[jh,aV] at hf
 |_,_,.iface t x c hx,hf=>by
  simp only[jh,aV] at hf
  exact .iface t _ c (aI.frz s hx hf)
theorem ao.frz(s:Sim K G ok w0 h w):∀{xs:List AV} {cs:List Value},ao K xs cs->bA 0 0 0 (j3 z h xs)=true->ao (K.still w) (j3 z h xs) cs
 |_,_,.nil,_=> .nil
 |_,_,.cons x c xs cs hx hs,hf=>by
  simp only[j3,bA,Bool.and_eq_true] at hf
  exact .cons _ c _ cs (aI.frz s hx hf.1) (ao.frz s hs hf.2)
end
theorem Sim.still(s:Sim K G ok w0 h w)(hG:∀g cs,G g=some cs->bA 0 0 0 cs=true):Sim (K.still w) G ok w ⟨[],[],0,[]⟩ w:=by
 refine⟨Below.refl _ _,Nat.le_refl _,fun g j c hc=>hc,fun g cs hg=>?_,rfl,fun b b' g hb=>by simp[aB.still] at hb,fun b g cs hb=>by simp[aB.still] at hb,rfl,fun b b' g hb=>by simp[aB.still] at hb,fun l g r hl=>by simp[aB.still] at hl,rfl,fun t ht=>?_,fun t t' ht=>?_,fun r hr=>by simp[aB.still] at hr,rfl⟩
 ·obtain⟨cells,q1,q2⟩:=s.dW g cs hg
  exact⟨cells,ao.lJ (K1:=K) (K2:=K.still w) (mU s) q1 (hG g cs hg),fun j c hj=>s.ic _ _ _ (q2 j c hj)⟩
 ·simp[alive] at ht
 ·simp[alive] at ht
def ER(z:Nat)(R:Rec)(g:FuncId)(args:List AV)(h:ae):Option (AV × ae):=
 if bA 0 0 0 (j3 z h args)=true then
  match R.call g (j3 z h args) ⟨[],[],0,[]⟩ with
  |some (.ret (.v y),_)=>some (.v y,h)
  |_=>none
 else none
theorem Pt{prims:FuncId->Option (List AV->ae->Option (AV × ae))}(hp:Prog P)(hG:∀g cs,G g=some cs->bA 0 0 0 cs=true)(hprim:∀V g p,prims g=some p->jb P G V g p){g:FuncId}(hfn:∃fn,P.funcs[g]?=some fn/\fn.body.isSome=true)(V:World):
 jb P G V g (ER z (whole P G prims) g):=by
 refine⟨hfn,fun args h x h' hx K w vargs hv hs cs=>?_⟩
 unfold ER at hx
 split at hx
 ·rename_i hf
  split at hx
  ·rename_i y h2 hc
   injection hx with hx
   injection hx with hx1 hx2
   subst hx1;subst hx2
   obtain⟨-,hsim⟩:=(su hp (hprim w)).call g _ _ _ _ hc
   have s0:=Sim.still hs hG
   obtain⟨K1,w',fr,le,s1,hst,hfr,v,hv',hle⟩:=hsim (K.still w) w vargs (ao.frz hs hv hf) s0 cs
   have hb:Below w.heap.size w w':=by have:=s1.old;rwa [le.base] at this
   refine⟨.returned v,w',fr,⟨v,_,rfl,aB.zr hs,?_,Sim.qB hs hb⟩,hst,hfr,hle⟩
   cases hv' with
   |v _ q=>exact .v _ q
  ·cases hx
 ·cases hx
def jE(z:Nat)(R:Rec)(L M:List FuncId)(g:FuncId):Option (List AV->ae->Option (AV × ae)):=if L.contains g=true then some (sK R g) else if M.contains g=true then some (ER z R g) else none
theorem BD{prims:FuncId->Option (List AV->ae->Option (AV × ae))}(hp:Prog P)(hG:∀g cs,G g=some cs->bA 0 0 0 cs=true)(hprim:∀V g p,prims g=some p->jb P G V g p){L M:List FuncId}(hL:∀g∈L,∃fn,P.funcs[g]?=some fn/\fn.body.isSome=true)(hM:∀g∈M,∃fn,P.funcs[g]?=some fn/\fn.body.isSome=true):
 ∀V g p,jE z (whole P G prims) L M g=some p->jb P G V g p:=by
 intro V g p he
 unfold jE at he
 split at he
 ·rename_i hg
  injection he with he
  subst he
  exact Ey hp hG hprim (hL g (by simpa using hg)) V
 ·split at he
  ·rename_i hg
   injection he with he
   subst he
   exact Pt hp hG hprim (hM g (by simpa using hg)) V
  ·cases he
theorem dm{R:Rec}{L M:List FuncId}{g:FuncId}{args args':List AV}{x y:AV}{h1:ae}(hg:L.contains g=true)(ha:bM args=args')(hf:bA 0 0 0 args'=true)(hc:R.call g args' ⟨[],[],0,[]⟩=some (.ret y,h1))(hy:jK h1 y=x)(hx:aV 0 0 0 x=true):
 ∀h,(whole P G (jE z R L M)).call g args h=some (.ret x,h):=by
 intro h
 subst ha;subst hy
 rw[lu]
 unfold gQ jE
 rw[if_pos hg]
 simp only[sK,xA,if_pos hf,hc,if_pos hx,Option.map_some]
theorem Ky{R:Rec}{L M:List FuncId}{g:FuncId}{args args':List AV}{y:Value}{h h1:ae}(hg:L.contains g=false)(hm:M.contains g=true)(ha:j3 z h args=args')(hf:bA 0 0 0 args'=true)(hc:R.call g args' ⟨[],[],0,[]⟩=some (.ret (.v y),h1)):
 (whole P G (jE z R L M)).call g args h=some (.ret (.v y),h):=by
 subst ha
 rw[lu]
 unfold gQ jE
 rw[if_neg (by rw[hg];exact Bool.false_ne_true),if_pos hm]
 simp only[ER,if_pos hf,hc]
 rfl
end
end Go.AE
end
section
namespace Go.Proofs.YtnfciiiohoafaaaGreatDoor
open Go.AE Go.NT
theorem Yb:Tryz.f59.results.toList=[.tmp 2]:=kZq
theorem Ws:Tryz.f92.results.toList=[.tmp 2]:=kZq
theorem RK:Tryz.f42.results.toList=[.tmp 2]:=kZq
theorem V1(n:Int)(h:ae):W4.call 59 [im n] h=some (.ret (.v (.bool (inQ n))),h):=by
 unfold im inQ Qi
 by_cases h0:0<=n
 ·refine ar rfl Tryz.func59 rfl ?_
  have:decide (0<=n)=true:=by simp[h0]
  repeat' (first|simp(maxSteps:=999999) (disch:=first|exact dZ|fail) only[gW,reduceIte,Nat.reduceEqDiff,beq_self_eq_true,Yb,Bool.true_and, *] | (refine dX ?_ ?_<;>(intro _;try omega)))
 ·refine ar rfl Tryz.func59 rfl ?_
  have:decide (0<=n)=false:=by simp[h0]
  repeat' (first|simp(maxSteps:=999999) (disch:=first|exact dZ|fail) only[gW,reduceIte,Nat.reduceEqDiff,beq_self_eq_true,Yb,Bool.false_and, *] | (refine dX ?_ ?_<;>(intro _;try omega)))
theorem VC(h:ae)(x:AV)(l:List Int)(hx:IL x l)(hl:l.length<=9223372036854775807):∃r h',W4.call 92 [x] h=some (r,h')/\h'=h/\r= .ret (.v (.bool (l.all inQ))):=by
 obtain⟨k,s,rfl,hs⟩:=hx
 have ks:=ah.mk hs
 clear hs
 have u23:=Tryz.underlying23
 have z3:=sz3
 have hil:=aU l
 refine aL rfl Tryz.func92 rfl ?_
 repeat' (first|simp(maxSteps:=999999) (disch:=first|exact dZ|fail) only[gW,reduceIte,Nat.reduceEqDiff,beq_self_eq_true,Ws, *] | (refine dX ?_ ?_<;>(intro _;try omega)))
 refine aD (fun m e H=>∃i:Nat,i<=l.length/\m=l.length - i/\ah ((l.take i).all inQ=true)/\e.get 0= .list k s (ints l)/\e.get 3= .v (.int .i64 (i:Nat))/\e.defers=[]/\H=h) ?_ l.length _ _ ?_
 rotate_left 1
 ·refine⟨0,Nat.zero_le _,rfl,⟨by simp⟩,?_,?_,?_,rfl⟩<;>exact gR
 rintro m e H ⟨i,hi,rfl,ka,g0,g3,hd,rfl⟩
 by_cases hlt:i<l.length
 ·have hs1:s=1:=ks.out (by intro q;rw[q] at hlt;simp at hlt)
  subst hs1
  have ld:=ldi (H:=H) (s:=1) hlt
  have hv:l[i]?=some (at0 l i):=by rw[List.getElem?_eq_getElem hlt,bN hlt]
  have hltI:(i:Int)<(l.length:Int):=by omega
  have htake:(l.take (i+1)).all inQ=inQ (at0 l i):=by rw[a9 hv,List.all_append,ka.out];simp
  have kt:=ah.mk (And.intro htake (List.mem_of_getElem? hv))
  have c:=V1 (at0 l i) H
  unfold im at c
  clear hv htake
  generalize at0 l i=n at *
  cases hq:inQ n with
  |false=>
   have kf:ah (l.all inQ=false):=⟨by rw[List.all_eq_false];exact⟨n,kt.out.2,by simp[hq]⟩⟩
   rw[hq] at c
   clear hq
   repeat' (first|simp(maxSteps:=999999) (disch:=first|exact dZ|fail) only[gW,reduceIte,Nat.reduceEqDiff,beq_self_eq_true,Ws,al, *] | (refine dX ?_ ?_<;>(intro _;try omega)))
   exact⟨_,_,rfl,rfl,by rw[kf.out]⟩
  |true=>
   have kt2:ah ((l.take (i+1)).all inQ=true):=⟨by rw[kt.out.1,hq]⟩
   rw[hq] at c
   clear hq
   repeat' (first|simp(maxSteps:=999999) (disch:=first|exact dZ|fail) only[gW,reduceIte,Nat.reduceEqDiff,beq_self_eq_true,Ws,al, *] | (refine dX ?_ ?_<;>(intro _;try omega)))
   exact⟨l.length - (i+1),by omega,i+1,by omega,rfl,kt2,by simp⟩
 ·have:i=l.length:=by omega
  subst this
  have:=ka.out
  rw[List.take_length] at this
  have kan:=ah.mk this
  clear this
  repeat' (first|simp(maxSteps:=999999) (disch:=first|exact dZ|fail) only[gW,reduceIte,Nat.reduceEqDiff,beq_self_eq_true,Ws, *] | (refine dX ?_ ?_<;>(intro _;try omega)))
  exact⟨_,_,rfl,rfl,by rw[kan.out]⟩
theorem Hl(h:ae)(x y:AV)(rows:List (List Int))(owners:List Int)(hx:RL x rows)(hy:IL y owners):∃h',W4.call 42 [.agg [x,y]] h=some (.ret (.v (.int .i64 (aK rows:Nat))),h')/\h'=h.push [x,y]:=by
 obtain⟨k,s,xs,rfl,hs,hxl,hxr⟩:=hx
 have bx:(AV.agg [.list k s (xs.map fun a=>[a]),y]).aC=some [.list k s (xs.map fun a=>[a]),y]:=by
  obtain⟨ky,sy,rfl,-⟩:=hy;rfl
 have l0:=tY (ak h [.list k s (xs.map fun a=>[a]),y])
 have u23:=Tryz.underlying23
 have u22:=Tryz.underlying22
 have z23:=jC
 have hil:(xs.map fun a=>[a]).length=rows.length:=by rw[List.length_map];exact hxl
 refine dL rfl Tryz.func42 rfl ?_
 by_cases h0:rows.length=0
 ·have hq:(rows.length:Int)=0:=by omega
  have hc:aK rows=1:=by unfold aK;rw[if_pos h0]
  rw[hc]
  clear h0 hxr hs hxl hc
  repeat' (first|simp(maxSteps:=999999) (disch:=first|exact dZ|fail) only[gW,reduceIte,Nat.reduceEqDiff,beq_self_eq_true,RK,aw,bH, *] | (refine dX ?_ ?_<;>(intro _;try omega)))
  exact⟨_,rfl,rfl⟩
 ·have hq:¬((rows.length:Int)=0):=by omega
  obtain⟨a0,hav0⟩:∃a,xs[0]?=some a:=⟨_,List.getElem?_eq_getElem (by omega)⟩
  obtain⟨r0,hv0⟩:∃r,rows[0]?=some r:=⟨_,List.getElem?_eq_getElem (by omega)⟩
  have hs1:s=1:=hs (by intro q;rw[q] at h0;simp at h0)
  subst hs1
  have ld0:=ldr (H:=h.push [.list k 1 (xs.map fun a=>[a]),y]) (s:=1) hav0
  obtain⟨ka0,sa0,rfl,hsa0⟩:=hxr 0 a0 r0 hav0 hv0
  have hc:aK rows=r0.length:=by
   unfold aK
   rw[if_neg h0,List.getD_eq_getElem?_getD,hv0];rfl
  rw[hc]
  have hrl:=aU r0
  have h0I:(0:Int)<(rows.length:Int):=by omega
  have z0:(0:Int).toNat=0:=rfl
  clear h0 hxr hs hxl hc hav0 hv0 hsa0
  repeat' (first|simp(maxSteps:=999999) (disch:=first|exact dZ|fail) only[gW,reduceIte,Nat.reduceEqDiff,beq_self_eq_true,RK,aw,bH,al, *] | (refine dX ?_ ?_<;>(intro _;try omega)))
  exact⟨_,rfl,rfl⟩
end Go.Proofs.YtnfciiiohoafaaaGreatDoor
end
