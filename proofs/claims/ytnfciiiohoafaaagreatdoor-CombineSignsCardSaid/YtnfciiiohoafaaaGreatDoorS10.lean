/-
  Part of the proof: S10.
-/
import Derived.Test.YtnfciiiohoafaaaGreatDoorPT
set_option maxHeartbeats 64000000
set_option maxRecDepth 100000
set_option linter.unusedSimpArgs false
set_option linter.unusedVariables false
set_option linter.constructorNameAsVariable false
section
namespace Go.Proofs.YtnfciiiohoafaaaGreatDoor
open Go.AE Go.NT
theorem YA:Tryz.f10.results.toList=[.tmp 12]:=kZq
theorem YB(h:ae)(hok:aZ h=true)(X Y R W Zf T:AV)(rows:List (List Int))(owners:List Int)(bp:Int)(random who N:List Int)(text:List UInt8)
 (hx:RL X rows) (hy:IL Y owners) (hr:IL R random) (hw:IL W who) (hn:IL Zf N) (ht:BL T text) (hrl:random.length<=9223372036854775807) (hwl:who.length<=9223372036854775807) (hnl:N.length<=9223372036854775807):
 ∃r h',W7.call 10 [.agg [X,Y],im bp,R,W,Zf,T] h=some (r,h')/\r= .ret (.v (.bool true)):=by
 have bx:=ff hx hy
 obtain⟨_,H1,c1,x1,rfl⟩:=UT (h.push [X,Y]) hok
 have hok1:=x1.ok hok
 have l1:ai Tryz.prog Gt H1 25 (.ptr (.box h.boxes.length) 0)=some (.agg [X,Y]):=ma (x1.box _ _ (ak _ _))
 have zc:=VG
 have zg:=Sf
 refine aL rfl Tryz.func10 rfl ?_
 rcases Uf X Y R W Zf T rows owners bp random who N text hx hy hr hw hn ht hrl hwl hnl with⟨hu,c2⟩|⟨hu,X2,Y2,C2,T2,L2,Z2,g1,g2,g3,g4,g5,g6,c2⟩
 ·have s1:aA Tryz.prog (H1.push (fa 0 nl nl nl nl nl nl)) 66 (.ptr (.box H1.boxes.length) 0) (.agg (fa 0 nl nl nl nl nl nl))=some (H1.push (fa 0 nl nl nl nl nl nl)):=cQ rfl Uo rfl rfl
  clear hx hy hr hw hn ht x1 hok hok1 hu
  unfold im at *
  repeat' (first|simp(maxSteps:=9999999) (disch:=first|exact dZ|fail) only[gW,reduceIte,Nat.reduceEqDiff,beq_self_eq_true,YA,aw, *] | (refine dX ?_ ?_<;>(intro _;try omega)))
  exact⟨_,_,rfl,rfl⟩
 obtain⟨y,cr,q1,q2,q3,q4,q5,q6,q7⟩:=QM hu
 have cells:=N0 (ep:=0) g1 g2 g3 g4 g5 g6
 have hcl:(ax (bp::random)).length<=1000000:=by unfold ax;rw[List.length_map,cr.sl];omega
 have hll:(bq who N).length<=1000000:=by rw[rB];omega
 have hzl:(db rows owners (bp::random) who N (bq who N) text).length<=1000000:=by rw[hU];omega
 obtain⟨H2,hH2⟩:∃H2,H1.push (fa 0 X2 Y2 C2 T2 L2 Z2)=H2:=⟨_,rfl⟩
 have s1:aA Tryz.prog (H1.push (fa 0 nl nl nl nl nl nl)) 66 (.ptr (.box H1.boxes.length) 0) (.agg (fa 0 X2 Y2 C2 T2 L2 Z2))=some H2:=by rw[<-hH2];exact cQ cells Uo rfl rfl
 have t2:H2.boxes[H1.boxes.length]?=some (fa 0 X2 Y2 C2 T2 L2 Z2):=by rw[<-hH2];exact ak _ _
 have ok2:aZ H2=true:=by rw[<-hH2];exact hok1
 have l2:=lN t2
 have c3:=Yp 4 bp
 rw[iS oU,show lG 4=0 from if_pos oU] at c3
 have hkey:at0 (ax (bp::random)) 0=((aY Gn bp:Nat):Int):=JD (by simp)
 change ∀h,W7.call 30 [im 4,im bp] h=some (.ret (.tuple [im ((aY Gn bp:Nat):Int),im 0]),h) at c3
 rw[<-hkey] at c3
 obtain⟨_,H3,k3,e3,rfl⟩:=p7 H2 0 X2 Y2 C2 T2 L2 Z2 rows owners (ax (bp::random)) text (bq who N) _ g1 g2 g3 g4 g5 hcl hll (by omega) (.inl g6) hzl
 rw[cr.comb] at k3
 have hv:=cr.QU
 generalize hch:((aG (at0 (ax (bp::random)) 0) text (bq who N):Nat):Int)=ch at *
 generalize hsm:(db rows owners (bp::random) who N (bq who N) text).foldl cN 0=sm at *
 obtain⟨H4,hH4⟩:∃H4,H3.push [im ch,im sm]=H4:=⟨_,rfl⟩
 have s4:=Um (H:=H3) ch sm
 rw[hH4] at s4
 have e4:Ext H3 H4:=by rw[<-hH4];exact .push _ _
 have t4:=e4.box _ _ (e3.box _ _ t2)
 have l4:=lN t4
 have u4:H4.boxes[H3.boxes.length]?=some [im ch,im sm]:=by rw[<-hH4];exact ak _ _
 obtain⟨_,H5,k5,e5,B5,rfl,hB5⟩:=Uh H4 ((e3.trans e4).ok ok2) 0 X2 Y2 C2 T2 L2 Z2 rows owners (ax (bp::random)) text (bq who N) _ g1 g2 g3 g4 g5 hcl hll (.inl g6) hzl
 rw[cr.UB] at k5 hB5
 have l5:=lN (e5.box _ _ t4)
 have lS:=Sh (e5.box _ _ u4)
 have vf:=Uq (at0 (ax (bp::random)) 0) ch sm T text ht (by omega)
 rw[hv] at vf
 have hpos:0<(ax (bp::random)).length:=by unfold ax;simp
 have ixC:ay Tryz.prog 23 C2 (.v (.int .i64 0))=some (.elem 1 (ints (ax (bp::random))) 0 0):=g3.ix (i:=0) hpos
 have ldC:∀K:ae,ai Tryz.prog Gt K 3 (.elem 1 (ints (ax (bp::random))) 0 0)=some (.v (.int .i64 (at0 (ax (bp::random)) 0))):=fun K=>ldi hpos
 have lnB:cH Tryz.prog 23 B5=some (.v (.int .i64 0)):=hB5.cH
 clear hx hy hr hw hn ht x1 hok hok1 hu cr q1 q2 q3 q4 q5 q6 q7 cells hcl hll hzl hH2 t2 ok2 hkey e3 hv hch hsm hH4 e4 t4 u4 e5 hB5 hpos g1 g2 g3 g4 g5 g6 hrl hwl hnl
 generalize at0 (ax (bp::random)) 0=key at *
 generalize ints (ax (bp::random))=ic at *
 unfold im at *
 repeat' (first|simp(maxSteps:=9999999) (disch:=first|exact dZ|fail) only[gW,reduceIte,Nat.reduceEqDiff,beq_self_eq_true,YA,aw,Tx,fF, *] | (refine dX ?_ ?_<;>(intro _;try omega)))
 exact⟨_,_,rfl,rfl⟩
end Go.Proofs.YtnfciiiohoafaaaGreatDoor
end
