/-
  Part of the proof: S13.
-/
import Derived.Test.YtnfciiiohoafaaaGreatDoorPJ
open List renaming length_nil→ab7,getElem?_eq_some_iff→abm,length_set→aca
open Nat renaming zero_add→acB,reduceEqDiff→abn,le_refl→abq
open Option renaming bind_some→acu
open Int renaming emod_nonneg→adT,emod_lt_of_pos→adw,tmod_eq_emod_of_nonneg→acF
set_option maxHeartbeats 64000000
set_option maxRecDepth 100000
set_option linter.unusedSimpArgs false
set_option linter.unusedVariables false
set_option linter.constructorNameAsVariable false
section
namespace Go.Proofs.YtnfciiiohoafaaaGreatDoor
open Go.AE Go.NT
theorem Wg:Tryz.f13.results.toList=[.tmp 14]:=kZq
theorem Wh:aN Tryz.prog 23 0 []=some (.list .tight 1 []):=kZq
theorem XI(l:List Int):(ints l).flatten=l.map im:=by
 induction l with
 |nil=>rfl
 |cons a l ih=>
  show nC a++(ints l).flatten=_
  rw[ih];rfl
theorem UM{H:ae}{Z:AV}{l:List Int}(hz:IL Z l)(hne:l≠[])(hl:l.length<=1000000):
 iX Tryz.prog H #[23,23] (.list .tight 1 []) Z=some (.arr H.boxes.length 0 l.length l.length,H.push (l.map im)):=by
 obtain⟨k,s,rfl,hs⟩:=hz
 have hs1:=hs hne
 subst hs1
 obtain⟨i,q1,q2,q3,q4⟩:=in3
 have hbb:=Nat.mul_le_mul (show l.length<=1000000 by omega) q3
 have hnn:ints l≠[]:=fun q=>hne (by have:=congrArg List.length q;rw[aU] at this;exact List.length_eq_zero_iff.1 this)
 have:=xe (h:=H) (k:=.tight) (sz:=1) (es:=[]) (new:=ints l) (x:=.list k 1 (ints l)) Tryz.underlying23 Tryz.underlying23 q1 (by omega) (by rw[q2];exact q4) hnn (by rw[ab7,acB,aU];omega) (by rw[ab7,acB,aU];omega) (.inr rfl) (.inr rfl) (by rw[q2];show rowsOf H 1 (.list k 1 (ints l))=some (ints l);simp[rowsOf])
 rw[ab7,acB,aU,List.nil_append,XI] at this
 exact this
theorem VL{W:AV}{who:List Int}(hw:IL W who)(h2:2<=who.length):∃V,IL V (who.take 2)/\ck Tryz.prog 23 W none (some (.v (.int .i64 2))) none=some V:=by
 obtain⟨k,s,rfl,hs⟩:=hw
 have hs1:=hs (by intro q;rw[q] at h2;simp at h2)
 subst hs1
 have hb:bX (ints who).length (some (.v (.int .i64 2))) (ints who).length=some 2:=by
  unfold bX
  simp[aU]
  omega
 have hn:bX (ints who).length none (ints who).length=some (ints who).length:=rfl
 have hz:bX 2 none 0=some 0:=rfl
 have e:ck Tryz.prog 23 (.list k 1 (ints who)) none (some (.v (.int .i64 2))) none=some (.list (gO k (decide (2=(ints who).length)&&true) false 2) 1 (((ints who).take 2).drop 0)):=by
  unfold ck
  simp only[Option.isSome_none,Bool.false_and,Bool.false_eq_true,if_false,Tryz.underlying23,sz3,hb,hn,hz]
  rw[if_pos (.inl trivial)];rfl
 rw[List.drop_zero,show(ints who).take 2=ints (who.take 2) from(List.map_take ..).symm] at e
 exact⟨_,⟨_,_,rfl,fun _=>rfl⟩,e⟩
theorem YD(d:Nat)(a:Int):bQ Tryz.prog (Op.equalIn (d+1) 3 (.int .i64 a) (.int .i64 a))=some true:=by
 unfold Op.equalIn
 rw[fE,IP Tryz.underlying3,acu]
 simp[bQ]
 rfl
theorem VM{α:Type}{P:Program}(a:α):bQ P (pure a:Sem α)=some a:=rfl
abbrev aav(a b:Int):Array Value:=#[.int .i64 a,.int .i64 b]
theorem YE(d:Nat)(a b:Int):bQ Tryz.prog (Op.equalIn (d+2) 50 (.agg (aav a b)) (.agg (aav a b)))=some true:=by
 have h1:bQ Tryz.prog (part 3 (aav a b) 0)=some (.int .i64 a):=kZq
 have h2:bQ Tryz.prog (part 3 (aav a b) 1)=some (.int .i64 b):=kZq
 have hs:Tryz.prog.stoodInHeld 50=false:=kZq
 have hp:bQ Tryz.prog program=some Tryz.prog:=rfl
 unfold Op.equalIn
 rw[fE,IP Tryz.underlying50,acu]
 simp[fE,VM,hp,hs,h1,h2,YD]
theorem YF{x y:Operand}(a b:Int):bB Tryz.prog .eql 50 x y (.agg [im a,im b]) (.agg [im a,im b])=some (.v (.bool true)):=by
 have hg:bQ Tryz.prog (eqGuard .eql 50 x y (.agg (aav a b)) (.agg (aav a b)))=some ():=kZq
 show(bQ Tryz.prog (do eqGuard .eql 50 x y (.agg (aav a b)) (.agg (aav a b));binOp .eql 50 (.agg (aav a b)) (.agg (aav a b)))).bind eS=_
 rw[fE,hg,acu]
 show(bQ Tryz.prog (do pure (.bool (<-Op.equal 50 (.agg (aav a b)) (.agg (aav a b)))))).bind eS=_
 rw[fE]
 have:=YE 9998 a b
 unfold Op.equal Op.maxDepth
 rw[this];rfl
theorem YG(h:ae)(hok:aZ h=true)(X Y R W aar T:AV)(rows:List (List Int))(owners:List Int)(bp:Int)(random who N:List Int)(text:List UInt8)(by_:Int)
 (hx:RL X rows) (hy:IL Y owners) (hr:IL R random) (hw:IL W who) (hn:IL aar N) (ht:BL T text) (hrl:random.length<=9223372036854775807) (hwl:who.length<=9223372036854775807) (hnl:N.length<=9223372036854775807):
 ∃r h',W7.call 13 [.agg [X,Y],im bp,R,W,aar,T,im by_] h=some (r,h')/\r=.ret (.v (.bool true)):=by
 have bx:=ff hx hy
 obtain⟨_,H1,c1,x1,rfl⟩:=UT (h.push [X,Y]) hok
 have hok1:=x1.ok hok
 have l1:ai Tryz.prog Gt H1 25 (.ptr (.box h.boxes.length) 0)=some (.agg [X,Y]):=ma (x1.box _ _ (ak _ _))
 have zc:=VG
 have zg:=Sf
 have lnW:=hw.cH
 refine aL rfl Tryz.func13 rfl ?_
 rcases Uf X Y R W aar T rows owners bp random who N text hx hy hr hw hn ht hrl hwl hnl with⟨hu,c2⟩|⟨hu,X2,Y2,C2,T2,L2,Z2,g1,g2,g3,g4,g5,g6,c2⟩
 ·have s1:aA Tryz.prog (H1.push (fa 0 nl nl nl nl nl nl)) 66 (.ptr (.box H1.boxes.length) 0) (.agg (fa 0 nl nl nl nl nl nl))=some (H1.push (fa 0 nl nl nl nl nl nl)):=cQ rfl Uo rfl rfl
  clear hx hy hr hw hn ht x1 hok hok1 hu
  unfold im at *
  refine gx2 @Wg @aw ?_
  exact⟨_,_,rfl,rfl⟩
 obtain⟨y,cr,q1,q2,q3,q4,q5,q6,q7⟩:=QM hu
 have cells:=N0 (ep:=0) g1 g2 g3 g4 g5 g6
 obtain⟨H2,hH2⟩:∃H2,H1.push (fa 0 X2 Y2 C2 T2 L2 Z2)=H2:=⟨_,rfl⟩
 have s1:aA Tryz.prog (H1.push (fa 0 nl nl nl nl nl nl)) 66 (.ptr (.box H1.boxes.length) 0) (.agg (fa 0 X2 Y2 C2 T2 L2 Z2))=some H2:=by rw[<-hH2];exact cQ cells Uo rfl rfl
 have hll:(bq who N).length<=1000000:=by rw[rB];omega
 generalize bq who N=aaq at *
 generalize bp::random=aa8 at *
 rcases (by omega:who.length<2∨by_<1∨1073741789<=by_∨(2<=who.length/\1<=by_/\by_<1073741789)) with g|g|g|⟨h2,h3,h4⟩
 iterate 3
  ·clear hx hy hr hw hn ht x1 hok hok1 hu cr q1 q2 q3 q4 q5 q6 q7 cells hH2 hrl hwl hnl hll
   unfold im at *
   repeat' (first|simp(maxSteps:=9999999) (disch:=first|exact dZ|fail) only[gW,reduceIte,abn,gBQ,Wg,aw, *]|refine dX ?_ ?_<;>(intro _;try omega))
   all_goals exact⟨_,_,rfl,rfl⟩
 have hcl:(ax aa8).length<=1000000:=by unfold ax;rw[List.length_map,cr.sl];omega
 have hPl:(db rows owners aa8 who N aaq text).length=who.length:=hU
 have hzl:(db rows owners aa8 who N aaq text).length<=1000000:=by omega
 have t2:H2.boxes[H1.boxes.length]?=some (fa 0 X2 Y2 C2 T2 L2 Z2):=by rw[<-hH2];exact ak _ _
 have ok2:aZ H2=true:=by rw[<-hH2];exact hok1
 have l2:=lN t2
 have hp0:okF (yh rows owners aa8 who N aaq text 0):=Uk 0
 have hp1:okF (yh rows owners aa8 who N aaq text 1):=Uk 1
 have a0:at0 (db rows owners aa8 who N aaq text) 0=_:=NS (by omega)
 have a1:at0 (db rows owners aa8 who N aaq text) 1=_:=NS (by omega)
 have hbt:=fun v w=>cr.VF h2 (v:=v) (w:=w)
 have hcp:=cr.comb
 have hsg:=cr.QU
 generalize db rows owners aa8 who N aaq text=PU at *
 generalize yh rows owners aa8 who N aaq text 0=v0 at *
 generalize yh rows owners aa8 who N aaq text 1=v1 at *
 have hQ:Qi=1073741789:=rfl
 obtain⟨p0a,p0b⟩:=hp0
 obtain⟨p1a,p1b⟩:=hp1
 have hsum:((PU.set 0 ((at0 PU 0+by_)%1073741789)).set 1 ((at0 PU 1 - by_+1073741789)%1073741789)).foldl cN 0=PU.foldl cN 0:=by
  match PU,hPl with
  | [],hl=>simp at hl;omega
  | [_],hl=>simp at hl;omega
  |a::b::t,_=>
   show(((a+by_)%1073741789)::((b - by_+1073741789)%1073741789)::t).foldl cN 0=_
   exact V4 (by rw[hQ];omega)
 rw[a0,a1] at hsum
 obtain⟨hbl,hkz⟩:=hbt ((v0+by_)%1073741789) ((v1 - by_+1073741789)%1073741789) ⟨adT _ (by decide),adw _ (by decide)⟩ ⟨adT _ (by decide),adw _ (by decide)⟩ (by omega) (by omega)
 have hcz:=cr.UQ hkz
 rw[hsum,hsg,if_pos rfl] at hcz
 have w0:IntKind.i64.wrap (v0+by_)=v0+by_:=bT (by omega) (by omega)
 have w1:IntKind.i64.wrap (v1 - by_)=v1 - by_:=bT (by omega) (by omega)
 have w2:IntKind.i64.wrap (v1 - by_+1073741789)=v1 - by_+1073741789:=bT (by omega) (by omega)
 have r0:(v0+by_).tmod 1073741789=(v0+by_)%1073741789:=acF (by omega)
 have r1:(v1 - by_+1073741789).tmod 1073741789=(v1 - by_+1073741789)%1073741789:=acF (by omega)
 generalize (v0+by_)%1073741789=abc at *
 generalize (v1 - by_+1073741789)%1073741789=u1 at *
 have aa9:=UM (H:=H2) g6 (by intro q;rw[q] at hPl;simp at hPl;omega) hzl
 have hn2:H2.boxes.length=H1.boxes.length+1:=by rw[<-hH2,az]
 obtain⟨H3,hH3⟩:∃H3,H2.push (PU.map im)=H3:=⟨_,rfl⟩
 rw[hH3] at aa9
 have e3:Ext H2 H3:=by rw[<-hH3];exact .push _ _
 have z3:H3.boxes[H2.boxes.length]?=some (PU.map im):=by rw[<-hH3];exact ak _ _
 have ix0:ay Tryz.prog 23 (.arr H2.boxes.length 0 PU.length PU.length) (.v (.int .i64 0))=some (.ptr (.box H2.boxes.length) 0):=vE (n:=0) (by omega)
 have ix1:ay Tryz.prog 23 (.arr H2.boxes.length 0 PU.length PU.length) (.v (.int .i64 1))=some (.ptr (.box H2.boxes.length) 1):=vE (n:=1) (by omega)
 have abi:ai Tryz.prog Gt H3 3 (.ptr (.box H2.boxes.length) 0)=some (.v (.int .i64 v0)):=by rw[<-a0];exact ldc z3 (gv (by omega))
 have st0:=J3 (x:=abc) z3 (k:=0) (by omega)
 obtain⟨H4,hH4⟩:∃H4,H3.put H2.boxes.length ((PU.set 0 abc).map im)=H4:=⟨_,rfl⟩
 rw[hH4] at st0
 have z3l:=(abm.1 z3).1
 have z4:H4.boxes[H2.boxes.length]?=some ((PU.set 0 abc).map im):=by rw[<-hH4];exact aS z3l
 have e4:Ext H2 H4:=by rw[<-hH4];exact e3.bZ (abq _) _
 have y1:ai Tryz.prog Gt H4 3 (.ptr (.box H2.boxes.length) 1)=some (.v (.int .i64 v1)):=by
  have q:at0 (PU.set 0 abc) 1=v1:=by
   rw[<-a1,bN (by rw[aca];omega),List.getElem_set,if_neg (by omega),bN (by omega)]
  rw[<-q];exact ldc z4 (gv (by rw[aca];omega))
 have st1:=J3 (x:=u1) z4 (k:=1) (by rw[aca];omega)
 obtain⟨H5,hH5⟩:∃H5,H4.put H2.boxes.length (((PU.set 0 abc).set 1 u1).map im)=H5:=⟨_,rfl⟩
 rw[hH5] at st1
 have z4l:=(abm.1 z4).1
 have z5:H5.boxes[H2.boxes.length]?=some (((PU.set 0 abc).set 1 u1).map im):=by rw[<-hH5];exact aS z4l
 have e5:Ext H2 H5:=by rw[<-hH5];exact e4.bZ (abq _) _
 have hZ5:IS H5 (.arr H2.boxes.length 0 PU.length PU.length) ((PU.set 0 abc).set 1 u1):=.inr ⟨_,by simp,z5⟩
 have t5:=e5.box _ _ t2
 have l5:=lN t5
 obtain⟨_,H6,k6,e6,rfl⟩:=p7 H5 0 X2 Y2 C2 T2 L2 Z2 rows owners (ax aa8) text aaq _ g1 g2 g3 g4 g5 hcl hll (by omega) (.inl g6) hzl
 rw[hcp] at k6
 generalize hch:((aG (at0 (ax aa8) 0) text aaq:Nat):Int)=ch at *
 generalize hsm:PU.foldl cN 0=sm at *
 obtain⟨aak,hH7⟩:∃aak,H6.push [im ch,im sm]=aak:=⟨_,rfl⟩
 have aa1:=Um (H:=H6) ch sm
 rw[hH7] at aa1
 have aaG:Ext H6 aak:=by rw[<-hH7];exact .push _ _
 have E7:=e6.trans aaG
 have t7:=E7.box _ _ t5
 have l7:=lN t7
 have f7:aak.boxes[H6.boxes.length]?=some [im ch,im sm]:=by rw[<-hH7];exact ak _ _
 have hZ7:=hZ5.mono fun c cs q=>E7.box _ _ q
 obtain⟨_,aal,k8,e8,rfl⟩:=p7 aak 0 X2 Y2 C2 T2 L2 _ rows owners (ax aa8) text aaq _ g1 g2 g3 g4 g5 hcl hll (by omega) hZ7 (by simp;omega)
 rw[hcz] at k8
 obtain⟨aam,hH9⟩:∃aam,aal.push [im ch,im sm]=aam:=⟨_,rfl⟩
 have aa3:=Um (H:=aal) ch sm
 rw[hH9] at aa3
 have e9:Ext aal aam:=by rw[<-hH9];exact .push _ _
 have aai:=e8.trans e9
 have t9:=aai.box _ _ t7
 have aaT:=lN t9
 have f9:=aai.box _ _ f7
 have g9:aam.boxes[aal.boxes.length]?=some [im ch,im sm]:=by rw[<-hH9];exact ak _ _
 have hZ9:=hZ7.mono fun c cs q=>aai.box _ _ q
 obtain⟨_,aao,ka,ea,Zb,rfl,hBa⟩:=Uh aam (((e5.trans E7).trans aai).ok ok2) 0 X2 Y2 C2 T2 L2 _ rows owners (ax aa8) text aaq _ g1 g2 g3 g4 g5 hcl hll hZ9 (by simp;omega)
 rw[hbl] at ka hBa
 have lS:=Sh (ea.box _ _ f9)
 have aaX:=Sh (ea.box _ _ g9)
 obtain⟨V,hV,sl⟩:=VL hw h2
 have sm7:=Wa Zb V (who.take 2) (who.take 2) hBa hV (by simp;omega) (by simp;omega)
 rw[decide_eq_true rfl] at sm7
 clear hx hy hr hw hn ht x1 hok hok1 hu cr q1 q2 q3 q4 q5 q6 q7 cells hH2 hrl hwl hnl hcl hll hzl t2 ok2 p0a p0b p1a p1b hsum hbl hkz hcz hcp hsg hbt hn2 hH3 e3 z3 hH4 z3l z4 e4 hH5 z4l z5 e5 hZ5 t5 e6 hch hsm hH7 aaG E7 t7 f7 hZ7 e8 hH9 e9 aai t9 f9 g9 hZ9 ea hBa hV g1 g2 g3 g4 g5 g6 a0 a1 hPl hQ
 have eqs:=fun(x y:Operand)=>YF (x:=x) (y:=y) ch sm
 unfold im at *
 repeat' (first|simp(maxSteps:=9999999) (disch:=first|exact dZ|fail) only[gW,reduceIte,abn,gBQ,Wg,aw,Tx,Wh, *]|refine dX ?_ ?_<;>(intro _;try omega))
 exact⟨_,_,rfl,rfl⟩
end Go.Proofs.YtnfciiiohoafaaaGreatDoor
end
