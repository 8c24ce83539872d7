/-
  Part of the proof: S12.
-/
import Derived.Test.YtnfciiiohoafaaaGreatDoorPT
set_option maxHeartbeats 64000000
set_option maxRecDepth 100000
set_option linter.unusedSimpArgs false
set_option linter.unusedVariables false
set_option linter.constructorNameAsVariable false
section
namespace Go.Proofs.YtnfciiiohoafaaaGreatDoor
open Go.AE Go.NT
theorem Wf:Tryz.f12.results.toList=[.tmp 16]:=kZq
theorem YC(h:ae)(hok:aZ h=true)(X Y R W V Zf Ze T:AV)(rows:List (List Int))(owners:List Int)(bp:Int)(random who others N M:List Int)(text:List UInt8)
 (hx:RL X rows) (hy:IL Y owners) (hr:IL R random) (hw:IL W who) (hv:IL V others) (hn:IL Zf N) (hm:IL Ze M) (ht:BL T text) (hrl:random.length<=9223372036854775807) (hwl:who.length<=9223372036854775807) (hvl:others.length<=9223372036854775807) (hnl:N.length<=9223372036854775807) (hml:M.length<=9223372036854775807):
 ∃r h',W7.call 12 [.agg [X,Y],im bp,R,W,V,Zf,Ze,T] h=some (r,h')/\r= .ret (.v (.bool true)):=by
 have bx:=ff hx hy
 obtain⟨_,H1,c1,x1,rfl⟩:=UT (h.push [X,Y]) hok
 have hok1:=x1.ok hok
 have b1:=x1.box _ _ (ak _ _)
 have l1:ai Tryz.prog Gt H1 25 (.ptr (.box h.boxes.length) 0)=some (.agg [X,Y]):=ma b1
 have zc:=VG
 have zg:=Sf
 refine aL rfl Tryz.func12 rfl ?_
 have K1:=Uf X Y R W Zf T rows owners bp random who N text hx hy hr hw hn ht hrl hwl hnl
 have K2:=Uf X Y R V Ze T rows owners bp random others M text hx hy hr hv hm ht hrl hvl hml
 rcases K1 with⟨hu,c2⟩|⟨hu,X2,Y2,C2,T2,L2,Z2,g1,g2,g3,g4,g5,g6,c2⟩
 ·obtain⟨H2,hH2⟩:∃H2,H1.push (fa 0 nl nl nl nl nl nl)=H2:=⟨_,rfl⟩
  have s1:aA Tryz.prog H2 66 (.ptr (.box H1.boxes.length) 0) (.agg (fa 0 nl nl nl nl nl nl))=some H2:=by rw[<-hH2];exact cQ rfl Uo rfl rfl
  have l2:ai Tryz.prog Gt H2 25 (.ptr (.box h.boxes.length) 0)=some (.agg [X,Y]):=ma (by rw[<-hH2];exact aj b1)
  obtain⟨T2,U2,c3,hT2⟩:∃(T2:List AV) (u:Bool),(∀h,W7.call 38 [.agg [X,Y],im bp,R,V,Ze,T] h=some (.ret (.tuple [.agg T2,.v (.bool u),.v (.bool true)]),h))/\(AV.agg T2).aC=some T2/\T2.length=7:=by
   rcases K2 with⟨-,q⟩|⟨-,YW,B2,D2,E2,Y7,G2,k1,k2,k3,k4,k5,k6,q⟩
   ·exact⟨_,_,q,rfl,rfl⟩
   ·exact⟨_,_,q,N0 (ep:=0) k1 k2 k3 k4 k5 k6,rfl⟩
  have s2:aA Tryz.prog (H2.push (fa 0 nl nl nl nl nl nl)) 66 (.ptr (.box H2.boxes.length) 0) (.agg T2)=some (H2.push T2):=cQ hT2.1 Uo hT2.2 rfl
  clear hx hy hr hw hn ht hv hm x1 hok hok1 hu hT2 K2 b1
  unfold im at *
  cases U2<;>(repeat' (first|simp(maxSteps:=9999999) (disch:=first|exact dZ|fail) only[gW,reduceIte,Nat.reduceEqDiff,beq_self_eq_true,Wf,aw, *] | (refine dX ?_ ?_<;>(intro _;try omega)));exact⟨_,_,rfl,rfl⟩)
 have cells:=N0 (ep:=0) g1 g2 g3 g4 g5 g6
 obtain⟨H2,hH2⟩:∃H2,H1.push (fa 0 X2 Y2 C2 T2 L2 Z2)=H2:=⟨_,rfl⟩
 have s1:aA Tryz.prog (H1.push (fa 0 nl nl nl nl nl nl)) 66 (.ptr (.box H1.boxes.length) 0) (.agg (fa 0 X2 Y2 C2 T2 L2 Z2))=some H2:=by rw[<-hH2];exact cQ cells Uo rfl rfl
 have l2:ai Tryz.prog Gt H2 25 (.ptr (.box h.boxes.length) 0)=some (.agg [X,Y]):=ma (by rw[<-hH2];exact aj b1)
 have t2:H2.boxes[H1.boxes.length]?=some (fa 0 X2 Y2 C2 T2 L2 Z2):=by rw[<-hH2];exact ak _ _
 have ok2:aZ H2=true:=by rw[<-hH2];exact hok1
 rcases K2 with⟨hu2,c3⟩|⟨hu2,X3,Y3,C3,T3,L3,Z3,k1,k2,k3,k4,k5,k6,c3⟩
 ·obtain⟨H3,hH3⟩:∃H3,H2.push (fa 0 nl nl nl nl nl nl)=H3:=⟨_,rfl⟩
  have s2:aA Tryz.prog H3 66 (.ptr (.box H2.boxes.length) 0) (.agg (fa 0 nl nl nl nl nl nl))=some H3:=by rw[<-hH3];exact cQ rfl Uo rfl rfl
  clear hx hy hr hw hn ht hv hm x1 hok hok1 hu hu2 b1 cells hH2 t2 ok2 g1 g2 g3 g4 g5 g6
  unfold im at *
  repeat' (first|simp(maxSteps:=9999999) (disch:=first|exact dZ|fail) only[gW,reduceIte,Nat.reduceEqDiff,beq_self_eq_true,Wf,aw, *] | (refine dX ?_ ?_<;>(intro _;try omega)))
  exact⟨_,_,rfl,rfl⟩
 obtain⟨y1,cr1,q1,q2,q3,q4,q5,q6,q7⟩:=QM hu
 obtain⟨y2,cr2,-,-,-,-,p5,p6,-⟩:=QM hu2
 have cells3:=N0 (ep:=0) k1 k2 k3 k4 k5 k6
 have hcl:(ax (bp::random)).length<=1000000:=by unfold ax;rw[List.length_map,cr1.sl];omega
 have hll:(bq who N).length<=1000000:=by rw[rB];omega
 have hzl:(db rows owners (bp::random) who N (bq who N) text).length<=1000000:=by rw[hU];omega
 have hll2:(bq others M).length<=1000000:=by rw[rB];omega
 have hzl2:(db rows owners (bp::random) others M (bq others M) text).length<=1000000:=by rw[hU];omega
 obtain⟨H3,hH3⟩:∃H3,H2.push (fa 0 X3 Y3 C3 T3 L3 Z3)=H3:=⟨_,rfl⟩
 have s2:aA Tryz.prog (H2.push (fa 0 nl nl nl nl nl nl)) 66 (.ptr (.box H2.boxes.length) 0) (.agg (fa 0 X3 Y3 C3 T3 L3 Z3))=some H3:=by rw[<-hH3];exact cQ cells3 Uo rfl rfl
 have t3:H3.boxes[H1.boxes.length]?=some (fa 0 X2 Y2 C2 T2 L2 Z2):=by rw[<-hH3];exact aj t2
 have w3:H3.boxes[H2.boxes.length]?=some (fa 0 X3 Y3 C3 T3 L3 Z3):=by rw[<-hH3];exact ak _ _
 have m1:=lN t3
 obtain⟨_,H4,n4,e4,rfl⟩:=p7 H3 0 X2 Y2 C2 T2 L2 Z2 rows owners (ax (bp::random)) text (bq who N) _ g1 g2 g3 g4 g5 hcl hll (by omega) (.inl g6) hzl
 rw[cr1.comb] at n4
 have v1:=cr1.QU
 generalize hch:((aG (at0 (ax (bp::random)) 0) text (bq who N):Nat):Int)=ch at *
 generalize hsm:(db rows owners (bp::random) who N (bq who N) text).foldl cN 0=sm at *
 obtain⟨H5,hH5⟩:∃H5,H4.push [im ch,im sm]=H5:=⟨_,rfl⟩
 have s4:=Um (H:=H4) ch sm
 rw[hH5] at s4
 have e5:Ext H4 H5:=by rw[<-hH5];exact .push _ _
 have w5:=e5.box _ _ (e4.box _ _ w3)
 have t5:=e5.box _ _ (e4.box _ _ t3)
 have m2:=lN w5
 have u5:H5.boxes[H4.boxes.length]?=some [im ch,im sm]:=by rw[<-hH5];exact ak _ _
 obtain⟨_,H6,n6,e6,rfl⟩:=p7 H5 0 X3 Y3 C3 T3 L3 Z3 rows owners (ax (bp::random)) text (bq others M) _ k1 k2 k3 k4 k5 hcl hll2 (by omega) (.inl k6) hzl2
 rw[cr2.comb] at n6
 have v2:=cr2.QU
 generalize hch2:((aG (at0 (ax (bp::random)) 0) text (bq others M):Nat):Int)=ch2 at *
 generalize hsm2:(db rows owners (bp::random) others M (bq others M) text).foldl cN 0=sm2 at *
 obtain⟨Y8,hH7⟩:∃Y8,H6.push [im ch2,im sm2]=Y8:=⟨_,rfl⟩
 have s6:=Um (H:=H6) ch2 sm2
 rw[hH7] at s6
 have Zr:Ext H6 Y8:=by rw[<-hH7];exact .push _ _
 have m3:=lN (Zr.box _ _ (e6.box _ _ t5))
 have m4:=lN (Zr.box _ _ (e6.box _ _ w5))
 have lS:=Sh (Zr.box _ _ (e6.box _ _ u5))
 have ZW:Y8.boxes[H6.boxes.length]?=some [im ch2,im sm2]:=by rw[<-hH7];exact ak _ _
 have ZI:=Sh ZW
 have f1:=Uq (at0 (ax (bp::random)) 0) ch sm T text ht (by omega)
 rw[v1] at f1
 have f2:=Uq (at0 (ax (bp::random)) 0) ch2 sm2 T text ht (by omega)
 rw[v2] at f2
 have hpos:0<(ax (bp::random)).length:=by unfold ax;simp
 have ixC:ay Tryz.prog 23 C2 (.v (.int .i64 0))=some (.elem 1 (ints (ax (bp::random))) 0 0):=g3.ix (i:=0) hpos
 have ixD:ay Tryz.prog 23 C3 (.v (.int .i64 0))=some (.elem 1 (ints (ax (bp::random))) 0 0):=k3.ix (i:=0) hpos
 have ldC:∀K:ae,ai Tryz.prog Gt K 3 (.elem 1 (ints (ax (bp::random))) 0 0)=some (.v (.int .i64 (at0 (ax (bp::random)) 0))):=fun K=>ldi hpos
 clear hx hy hr hw hn ht hv hm x1 hok hok1 hu hu2 b1 cells hH2 t2 ok2 g1 g2 g3 g4 g5 g6 k1 k2 k3 k4 k5 k6 cr1 cr2 q1 q2 q3 q4 q5 q6 q7 p5 p6 cells3 hcl hll hzl hll2 hzl2 hH3 t3 w3 e4 v1 hch hsm hH5 e5 w5 t5 u5 e6 v2 hch2 hsm2 hH7 Zr ZW hpos hrl hwl hvl hnl hml
 generalize at0 (ax (bp::random)) 0=key at *
 generalize ints (ax (bp::random))=ic at *
 have ZK:decide (key≠key)=false:=by simp
 unfold im at *
 repeat' (first|simp(maxSteps:=9999999) (disch:=first|exact dZ|fail) only[gW,reduceIte,Nat.reduceEqDiff,beq_self_eq_true,Wf,aw,Tx,fF, *] | (refine dX ?_ ?_<;>(intro _;try omega)))
 refine bf Up kZq ?_
 repeat' (first|simp(maxSteps:=9999999) (disch:=first|exact dZ|fail) only[gW,reduceIte,Nat.reduceEqDiff,beq_self_eq_true,Wf,Tx,fF, *] | (refine dX ?_ ?_<;>(intro _;try omega)))
 refine bf Up kZq ?_
 repeat' (first|simp(maxSteps:=9999999) (disch:=first|exact dZ|fail) only[gW,reduceIte,Nat.reduceEqDiff,beq_self_eq_true,Wf,Tx,fF, *] | (refine dX ?_ ?_<;>(intro _;try omega)))
 exact⟨_,_,rfl,rfl⟩
end Go.Proofs.YtnfciiiohoafaaaGreatDoor
end
