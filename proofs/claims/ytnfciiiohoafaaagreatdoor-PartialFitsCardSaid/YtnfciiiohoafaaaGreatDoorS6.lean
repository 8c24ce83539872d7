/-
  Part of the proof: S6.
-/
import Derived.Test.YtnfciiiohoafaaaGreatDoorQS
set_option maxHeartbeats 64000000
set_option maxRecDepth 100000
set_option linter.unusedSimpArgs false
set_option linter.unusedVariables false
set_option linter.constructorNameAsVariable false
section
namespace Go.Proofs.YtnfciiiohoafaaaGreatDoor
open Go.AE Go.NT
theorem rs6:Tryz.f6.results.toList=[.tmp 14]:=kZq
theorem nbT{x y:Operand}:bB Tryz.prog .neq 4 x y (.v (.bool true)) (.v (.bool true))=some (.v (.bool false)):=kZq
theorem nbF{x y:Operand}:bB Tryz.prog .neq 4 x y (.v (.bool false)) (.v (.bool false))=some (.v (.bool false)):=kZq
theorem Ud(h:ae)(hok:aZ h=true)(X Y R N0 Tx:AV)(rows:List (List Int))(owners random eg:List Int)(secret sm other:Int)(text:List UInt8)
 (hx:RL X rows) (hy:IL Y owners) (hr:UL R random) (hn:UL N0 eg) (hs:0<=secret/\secret<4294967296) (ht:BL Tx text) (ho:0<=other/\other<4294967296):
 ∃r h',W6.call 6 [.agg [X,Y],.v (.int .u32 secret),R,N0,.v (.int .u16 sm),Tx,.v (.int .u32 other)] h=some (r,h')/\r= .ret (.v (.bool true)):=by
 have bx:=ff hx hy
 obtain⟨_,H1,c1,x1,rfl⟩:=Qb (h.push [X,Y]) hok
 have hok1:=x1.ok hok
 obtain⟨_,H2,c2,x2,post⟩:=Nf H1 hok1 X Y R N0 rows owners random eg secret sm hx hy hr hn hs
 have hok2:=x2.ok hok1
 have l1:ai Tryz.prog Gt H1 25 (.ptr (.box h.boxes.length) 0)=some (.agg [X,Y]):=ma (x1.box _ _ (ak _ _))
 have lnT:=ht.cH
 have zc:=Sb
 refine aL rfl Tryz.func6 rfl ?_
 rcases post with⟨hu,W,rfl,lw,hW⟩|⟨hu,C,S,W,L,N,rfl,q1,q2,q3,q4,q5⟩
 ·have s1:=N4 (H:=H2) (vX hW) rfl
  clear hx hy hr hn ht hW x1 x2 hok hok1 hok2
  repeat' (first|simp(maxSteps:=999999) (disch:=first|exact dZ|fail) only[gW,reduceIte,Nat.reduceEqDiff,beq_self_eq_true,rs6,aw, *] | (refine dX ?_ ?_<;>(intro _;try omega)))
  exact⟨_,_,rfl,rfl⟩
 have tb:=TJ hu hx hy q1 q2 q3 q4 q5
 have s1:=N4 (H:=H2) (pI (ep:=0) hx hy q1 q2 q3 q4 q5) rfl
 by_cases hlen:text.length<=300
 rotate_left 1
 ·have hI:(300:Int)<(text.length:Int):=by omega
  clear hx hy hr hn ht tb x1 x2 hok hok1 hok2 q1 q2 q3 q4 q5
  repeat' (first|simp(maxSteps:=999999) (disch:=first|exact dZ|fail) only[gW,reduceIte,Nat.reduceEqDiff,beq_self_eq_true,rs6,aw, *] | (refine dX ?_ ?_<;>(intro _;try omega)))
  exact⟨_,_,rfl,rfl⟩
 have hI:¬(300:Int)<(text.length:Int):=by omega
 obtain⟨y,p1,p2,p3,p4,p5,p6,p7⟩:=vZ hu
 have hsl:=tQ (secret:=secret) (random:=random) p1
 have cr:=Ss (cG sm) eg
 obtain⟨_,H4,c3,x3,Z,rfl,hZ⟩:=Nh (H2.push (dG 0 X Y C S W L N)) hok2 0 X Y C S W L N Tx rows owners _ _ _ _ _ text tb ht (fun i hi=>by rw[B9 (ep:=0) cr p4 p5 (by omega) (by omega) (by decide) hsl hi])
 rw[HN (ep:=0) cr p4 p5 (by omega) (by omega) (by decide) hsl] at hZ
 have l2:=Lb (ak H2 (dG 0 X Y C S W L N)) rfl
 have tb4:H4.boxes[H2.boxes.length]?=some (dG 0 X Y C S W L N):=x3.box _ _ (ak _ _)
 have l3:ai Tryz.prog Gt H4 23 (.ptr (.box H2.boxes.length) 5)=some W:=aQ mo tb4 rfl
 have lnW:=q3.cH
 have hom:other.tmod 1073741789=other%Qi:=Int.tmod_eq_emod_of_nonneg ho.1
 have how:IntKind.i64.wrap other=other:=bT (by omega) (by omega)
 have hxo:okF (other%Qi):=⟨Int.emod_nonneg _ (by decide),Int.emod_lt_of_pos _ (by decide)⟩
 have fz:∀i<(cG sm).length,∀z,okF z->∀h,W6.call 22 [.agg (cI 0 X Y C),Tx,L,im (at0 (cG sm) i),im z] h=some (.ret (.tuple [.v (.bool (decide (z=yh rows owners (dk rows secret random) (cG sm) (eG (2 * (cG sm).length) eg) (eJ (cG sm) (eG (2 * (cG sm).length) eg)) text i))),im 0]),h):=fun i hi z hz=>by
  have h1:=NY 0 X Y C Tx L rows owners (ax (dk rows secret random)) text (eJ (cG sm) (eG (2 * (cG sm).length) eg)) hx hy q1 ht q4 tb.cl tb.ll (at0 (cG sm) i) z
  rw[HL (ep:=0) cr p4 p5 (by omega) (by omega) (by decide) hsl hi hz] at h1
  exact h1
 have zok:∀i,okF (yh rows owners (dk rows secret random) (cG sm) (eG (2 * (cG sm).length) eg) (eJ (cG sm) (eG (2 * (cG sm).length) eg)) text i):=fun i=>JC
 have lK:=Sd tb4
 have lL:ai Tryz.prog Gt H4 29 (.ptr (.box H2.boxes.length) 6)=some L:=aQ KP tb4 rfl
 have kq:=ah.mk (And.intro q3 (And.intro hZ (And.intro fz zok)))
 clear hx hy hr hn ht tb x1 x2 x3 hok hok1 hok2 q1 q2 q3 q4 q5 cr p1 p2 p3 p4 p5 p7 hsl tb4 hu hZ fz zok
 generalize yh rows owners (dk rows secret random) (cG sm) (eG (2 * (cG sm).length) eg) (eJ (cG sm) (eG (2 * (cG sm).length) eg)) text=pu at *
 generalize dG 0 X Y C S W L N=T at *
 generalize cI 0 X Y C=ky at *
 generalize other%Qi=oq at *
 generalize hb:H2.boxes.length=b at *
 unfold im at *
 repeat' (first|simp(maxSteps:=999999) (disch:=first|exact dZ|fail) only[gW,reduceIte,Nat.reduceEqDiff,beq_self_eq_true,rs6,aw,mw,zL, *] | (refine dX ?_ ?_<;>(intro _;try omega)))
 refine Run.gen fun e0 he0 hd0 hp0 hr0=>?_
 have f5:e0.get 5=Tx:=by rw[he0];exact gS
 have f15:e0.get 15= .ptr (.box b) 0:=by rw[he0];simp only[gW,reduceIte,Nat.reduceEqDiff,beq_self_eq_true,hb]
 have f18:e0.get 18=Z:=by rw[he0];exact gS
 have f19:e0.get 19= .v (.int .i64 oq):=by rw[he0];exact gS
 have f62:e0.get 62=W:=by rw[he0];exact gS
 have f63:e0.get 63= .v (.int .i64 ((cG sm).length:Nat)):=by rw[he0];exact gS
 have f64:e0.get 64= .v (.int .i64 (0:Nat)):=by rw[he0];exact gR
 have fd:e0.defers=[]:=by rw[hd0];exact gS
 clear he0 hd0 hp0 hr0 c1 c2 c3 l1 l2 l3 s1 lnT lnW zc hb bx
 refine aD (fun m e H=>∃(i:Nat),i<=(cG sm).length/\m=(cG sm).length - i/\H=H4/\e.get 5=Tx/\e.get 15= .ptr (.box b) 0/\e.get 18=Z/\e.get 19= .v (.int .i64 oq)/\e.get 62=W/\e.get 63= .v (.int .i64 ((cG sm).length:Nat))/\e.get 64= .v (.int .i64 (i:Nat))/\e.defers=[]) ?_ (cG sm).length _ _ ?_
 rotate_left 1
 ·exact⟨0,Nat.zero_le _,rfl,rfl,f5,f15,f18,f19,f62,f63,f64,fd⟩
 clear f5 f15 f18 f19 f62 f63 f64 fd
 rintro m e H ⟨i,hi,rfl,rfl,g5,g15,g18,g19,g62,g63,g64,hd⟩
 by_cases hlt:i<(cG sm).length
 ·have ixW:=kq.out.1.ix hlt
  have ldW:∀K:ae,ai Tryz.prog Gt K 3 (.elem 1 (ints (cG sm)) i 0)=some (.v (.int .i64 (at0 (cG sm) i))):=fun K=>ldi hlt
  have hlz:i<((List.range (cG sm).length).map pu).length:=by simpa using hlt
  have ixZ:=kq.out.2.1.ix hlz
  have hzi:at0 ((List.range (cG sm).length).map pu) i=pu i:=by rw[bN hlz,List.getElem_map,List.getElem_range]
  have ldZ:∀K:ae,ai Tryz.prog Gt K 3 (.elem 1 (ints ((List.range (cG sm).length).map pu)) i 0)=some (.v (.int .i64 (pu i))):=fun K=>by rw[ldi hlz,hzi]
  have c1:=kq.out.2.2.1 i hlt (pu i) (kq.out.2.2.2 i)
  have c2:=kq.out.2.2.1 i hlt oq hxo
  have hltI:(i:Int)<((cG sm).length:Int):=by omega
  rw[decide_eq_true rfl] at c1
  generalize at0 (cG sm) i=wi at *
  generalize ints ((List.range (cG sm).length).map pu)=iz at *
  clear hzi
  generalize pu i=pi at *
  unfold im at *
  by_cases hq:oq=pi
  ·rw[decide_eq_true hq] at c2
   have dq:decide (oq=pi)=true:=decide_eq_true hq
   clear hq
   repeat' (first|simp(maxSteps:=999999) (disch:=first|exact dZ|fail) only[gW,reduceIte,Nat.reduceEqDiff,beq_self_eq_true,rs6,mw, *] | (refine dX ?_ ?_<;>(intro _;try omega)))
   refine bf rV kZq ?_
   repeat' (first|simp(maxSteps:=999999) (disch:=first|exact dZ|fail) only[gW,reduceIte,Nat.reduceEqDiff,beq_self_eq_true,rs6,mw,nbT, *] | (refine dX ?_ ?_<;>(intro _;try omega)))
   exact⟨(cG sm).length - (i+1),by omega,i+1,by omega,rfl,by simp⟩
  ·rw[decide_eq_false hq] at c2
   have dq:decide (oq=pi)=false:=decide_eq_false hq
   clear hq
   repeat' (first|simp(maxSteps:=999999) (disch:=first|exact dZ|fail) only[gW,reduceIte,Nat.reduceEqDiff,beq_self_eq_true,rs6,mw, *] | (refine dX ?_ ?_<;>(intro _;try omega)))
   refine bf rV kZq ?_
   repeat' (first|simp(maxSteps:=999999) (disch:=first|exact dZ|fail) only[gW,reduceIte,Nat.reduceEqDiff,beq_self_eq_true,rs6,mw,nbF, *] | (refine dX ?_ ?_<;>(intro _;try omega)))
   exact⟨(cG sm).length - (i+1),by omega,i+1,by omega,rfl,by simp⟩
 have hie:i=(cG sm).length:=by omega
 subst hie
 clear hi hlt
 repeat' (first|simp(maxSteps:=999999) (disch:=first|exact dZ|fail) only[gW,reduceIte,Nat.reduceEqDiff,beq_self_eq_true,rs6, *] | (refine dX ?_ ?_<;>(intro _;try omega)))
 exact⟨_,_,rfl,rfl⟩
end Go.Proofs.YtnfciiiohoafaaaGreatDoor
end
