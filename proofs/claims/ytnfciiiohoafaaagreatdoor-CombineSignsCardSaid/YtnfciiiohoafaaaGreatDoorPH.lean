/-
  The engine, part 37: new boxes beside a call that writes one box.
-/
import Derived.Test.YtnfciiiohoafaaaGreatDoorPG
import Derived.Test.YtnfciiiohoafaaaGreatDoorPF
set_option maxHeartbeats 64000000
set_option maxRecDepth 100000
set_option linter.unusedSimpArgs false
set_option linter.unusedVariables false
set_option linter.constructorNameAsVariable false
section
namespace Go.Proofs.YtnfciiiohoafaaaGreatDoor
open Go.AE Go.NT
theorem tx{h:ae}{z cs:List AV}{b:Nat}(hb:b=h.boxes.length):(h.push z).put b cs=h.push cs:=by subst hb;exact gg h z cs
theorem A5{h:ae}{z cs:List AV}{b:Nat}(hb:b≠h.boxes.length):(h.push z).put b cs=(h.put b cs).push z:=by
 unfold ae.push ae.put
 simp only
 congr 1
 rcases Nat.lt_or_ge b h.boxes.length with hlt|hge
 ·rw[List.set_append_left _ _ hlt]
 ·rw[List.set_append_right _ _ hge,List.set_eq_of_length_le (by simp;omega),List.set_eq_of_length_le hge]
theorem SH:Tryz.f83.results.toList=[.tmp 4]:=kZq
theorem Jf:Tryz.f147.results.toList=[]:=kZq
theorem OJ:Tryz.f30.results.toList=[.cell 4 3,.tmp 5]:=kZq
theorem zc3:(ej Tryz.prog 3).bind AV.aC=some [im 0]:=kZq
theorem Mo{t:TypeId}{x y:Operand}{n:Nat}(hn:n<=9223372036854775807):bB Tryz.prog .and t x y (.v (.int .i64 (n:Nat))) (.v (.int .i64 1))=some (.v (.int .i64 ((n%2:Nat):Int))):=by
 rw[fQ]
 congr 3
 have e1:BitVec.ofInt IntKind.i64.bits (n:Int)=BitVec.ofNat 64 n:=by
  apply BitVec.eq_of_toNat_eq
  show(BitVec.ofInt 64 (n:Int)).toNat=(BitVec.ofNat 64 n).toNat
  rw[BitVec.toNat_ofInt,BitVec.toNat_ofNat]
  omega
 have e2:(BitVec.ofNat 64 n&&&1#64).toNat=n%2:=by
  rw[BitVec.toNat_and,BitVec.toNat_ofNat,show(1#64:BitVec 64).toNat=1 from rfl,Nat.and_one_is_mod]
  omega
 have e3:(BitVec.ofInt IntKind.i64.bits (n:Int)&&&BitVec.ofInt IntKind.i64.bits 1).toNat=n%2:=by
  rw[e1];exact e2
 rw[e3,bT (by omega) (by omega)]
theorem Mp{t:TypeId}{x y:Operand}{n:Nat}:bB Tryz.prog .shr t x y (.v (.int .i64 (n:Nat))) (.v (.int .u64 1))=some (.v (.int .i64 ((n/2:Nat):Int))):=by
 rw[nr (by decide)]
 congr 3
 show((n:Nat):Int).fdiv (2^1)=_
 rw[Int.fdiv_eq_ediv_of_nonneg _ (by decide)]
 simp
theorem ec{h:ae}{b:Nat}{cs:List AV}(hb:h.boxes[b]?=some cs):h.put b cs=h:=by
 unfold ae.put
 have:h.boxes.set b cs=h.boxes:=by
  apply List.ext_getElem?
  intro k
  rw[List.getElem?_set]
  split
  ·rename_i e;subst e
   rw[if_pos (List.getElem?_eq_some_iff.1 hb).1,hb]
  ·rfl
 rw[this]
theorem ld3{H:ae}{b:Nat}{x:AV}(hb:H.boxes[b]?=some [x]):ai Tryz.prog Gt H 3 (.ptr (.box b) 0)=some x:=by rw[dc ag3 hb];rfl
theorem st3{H:ae}{b:Nat}{x:AV}{n:Int}(hb:H.boxes[b]?=some [x]):aA Tryz.prog H 3 (.ptr (.box b) 0) (.v (.int .i64 n))=some (H.put b [.v (.int .i64 n)]):=aW (off:=0) (cs:=[x]) (xs:=[im n]) rfl sz3 hb rfl (Nat.le_refl 1)
def A6(l bc:Nat)(rec:bE):Prop:=∀(s c:Nat) (b:Bool) (H:ae),s<P->c<P->H.loops[l]?=some rec->H.boxes[bc]?=some [im (c:Nat)]->W.round l [im (s:Nat),.v (.bool b)] H=some (.ret (.v (.bool true)),H.put bc [im ((if b=true then c * s%P else c:Nat):Int)])
theorem gY{P:Program}{R:Rec}{e:Env}{h:ae}{t l:Nat}{args:Array Operand}{ts:Array TypeId}(hy:e.get t= .yield l):eI P R e h {callee:= .value (.tmp t),args,argTypes:=ts}=R.round l (args.toList.map e.eval) h:=by
 rw[Az,hy]
theorem OK(l bn ba bc:Nat)(rec:bE)(hR:A6 l bc rec)(h1:bn≠ba)(h2:bn≠bc)(h3:ba≠bc)(r n a c:Nat)(hn:n<=2147483647)(hI:pN r n a c)(h:ae)
 (hbn:h.boxes[bn]?=some [im (n:Nat)]) (hba:h.boxes[ba]?=some [im (a:Nat)]) (hbc:h.boxes[bc]?=some [im (c:Nat)]) (hl:h.loops[l]?=some rec):
 ∃h',W.call 147 [.yield l,.ptr (.box bn) 0,.ptr (.box ba) 0] h=some (.ret (.tuple []),h')/\h'.boxes[bc]?=some [im (r:Nat)]/\h'.loops=h.loops/\∀h0:ae,Ext h0 h->h0.boxes.length<=bn->h0.boxes.length<=ba->h0.boxes.length<=bc->Ext h0 h':=by
 have kR:=ah.mk hR
 have kI:=ah.mk hI
 clear hR hI
 refine dL rfl Tryz.func147 rfl ?_
 repeat' (first|simp(maxSteps:=999999) (disch:=first|exact dZ|fail) only[gW,reduceIte,Nat.reduceEqDiff,beq_self_eq_true,Jf, *] | (refine dX ?_ ?_<;>(intro _;try omega)))
 refine aD (fun m e h'=>∃(a c:Nat),m<=2147483647/\pN r m a c/\e.get 0= .yield l/\e.get 1= .ptr (.box bn) 0/\e.get 2= .ptr (.box ba) 0/\e.defers=[]/\h'.boxes[bn]?=some [im (m:Nat)]/\h'.boxes[ba]?=some [im (a:Nat)]/\h'.boxes[bc]?=some [im (c:Nat)]/\h'.loops=h.loops/\∀h0:ae,Ext h0 h->h0.boxes.length<=bn->h0.boxes.length<=ba->h0.boxes.length<=bc->Ext h0 h') ?_ n _ _ ?_
 rotate_left 1
 ·exact⟨a,c,hn,kI.out,by exact gR,by exact gR,by exact gR,by exact gR,hbn,hba,hbc,rfl,fun _ x _ _ _=>x⟩
 clear hbn hba hbc kI n a c hn
 rintro m e H ⟨a,c,hm,hI,g0,g1,g2,hd,hbn,hba,hbc,hlp,hX⟩
 have kI:=ah.mk hI
 have kX:=ah.mk hX
 have ln:=ld3 hbn
 have la:=ld3 hba
 clear hX
 by_cases h0:m=0
 ·subst h0
  have hx:=hI.done
  subst hx
  unfold im at ln la
  clear hI
  repeat' (first|simp(maxSteps:=999999) (disch:=first|exact dZ|fail) only[gW,reduceIte,Nat.reduceEqDiff,beq_self_eq_true,Jf, *] | (refine dX ?_ ?_<;>(intro _;try omega)))
  exact⟨_,rfl,hbc,hlp,kX.out⟩
 have hpos:(0:Int)<((m:Nat):Int):=by omega
 have q1:∀(t:TypeId) (x y:Operand),bB Tryz.prog .and t x y (.v (.int .i64 (m:Nat))) (.v (.int .i64 1))=some (.v (.int .i64 ((m%2:Nat):Int))):=fun t x y=>Mo (by omega)
 obtain⟨m1,m2,m3⟩:=mul_tmod hI.2.1 hI.2.1
 have hHl:H.loops[l]?=some rec:=by rw[hlp];exact hl
 have rd:=kR.out a c (decide ((m%2:Nat)=1)) H hI.2.1 hI.1 hHl hbc
 have hI2:pN r (m/2) (a * a%P) (if decide (m%2=1)=true then c * a%P else c):=by
  rcases Nat.mod_two_eq_zero_or_one m with ho|ho
  ·rw[ho];exact hI.even ho
  ·rw[ho];exact hI.odd ho
 have kI2:=ah.mk hI2
 have hdec:decide (((m%2:Nat):Int)=1)=decide (m%2=1):=by
  rw[decide_eq_decide];omega
 have hlbn:=(List.getElem?_eq_some_iff.1 hbn).1
 have hlba:=(List.getElem?_eq_some_iff.1 hba).1
 have hlbc:=(List.getElem?_eq_some_iff.1 hbc).1
 clear hI hI2 hl
 generalize (if decide (m%2=1)=true then c * a%P else c)=c2 at *
 generalize decide (m%2=1)=bt at *
 unfold im at *
 have la2:∀x,ai Tryz.prog Gt (H.put bc x) 3 (.ptr (.box ba) 0)=some (.v (.int .i64 (a:Nat))):=fun x=>ld3 (by rw[av h3];exact hba)
 have sa2:∀x n,aA Tryz.prog (H.put bc x) 3 (.ptr (.box ba) 0) (.v (.int .i64 n))=some ((H.put bc x).put ba [.v (.int .i64 n)]):=fun x n=>st3 (by rw[av h3];exact hba)
 have ln2:∀x y,ai Tryz.prog Gt ((H.put bc x).put ba y) 3 (.ptr (.box bn) 0)=some (.v (.int .i64 (m:Nat))):=fun x y=>ld3 (by rw[av h1,av h2];exact hbn)
 have sn2:∀x y n,aA Tryz.prog ((H.put bc x).put ba y) 3 (.ptr (.box bn) 0) (.v (.int .i64 n))=some (((H.put bc x).put ba y).put bn [.v (.int .i64 n)]):=fun x y n=>st3 (by rw[av h1,av h2];exact hbn)
 repeat' (first|simp(maxSteps:=999999) (disch:=first|exact dZ|fail) only[gW,reduceIte,Nat.reduceEqDiff,beq_self_eq_true,Jf,gY,Mp, *] | (refine dX ?_ ?_<;>(intro _;try omega)))
 refine⟨m/2,by omega,a * a%P,c2,by omega,kI2.out,trivial,trivial,trivial,trivial,?_,?_,?_,hlp,fun h0 x p1 p2 p3=>(((kX.out h0 x p1 p2 p3).bZ p3 _).bZ p2 _).bZ p1 _⟩
 ·exact aS (by rw[dU,dU];exact hlbn)
 ·rw[av (Ne.symm h1)]
  exact aS (by rw[dU];exact hlba)
 ·rw[av (Ne.symm h2),av (Ne.symm h3)]
  exact aS hlbc
theorem jn{e:Env}{l p q t:Nat}{r:bE}{x y:AV}(hp:r.params=#[p,q])(ht:r.tmps=e.tmps):(dD l r [x,y]).get t=if q=t then y else if p=t then x else e.get t:=by
 unfold dD
 rw[hp,ht]
 have h1:=mB (e.tmps.set p x) q t y
 have h2:=mB e.tmps p t x
 show((e.tmps.set p x).set q y).get t=_
 rw[h1,h2]
 rfl
theorem Dq(a n:Int)(h:ae):W.call 83 [im a,im n] h=some (.ret (.func (.func 147) [] [.ptr (.box (h.boxes.length+1)) 0,.ptr (.box h.boxes.length) 0]),(h.push [im a]).push [im n]):=by
 have bx:∀n:Int,(AV.v (.int .i64 n)).aC=some [.v (.int .i64 n)]:=fun _=>rfl
 unfold im
 refine ar rfl Tryz.func83 rfl ?_
 repeat' (first|simp(maxSteps:=999999) (disch:=first|exact dZ|fail) only[gW,reduceIte,Nat.reduceEqDiff,beq_self_eq_true,SH,aw,az, *] | (refine dX ?_ ?_<;>(intro _;try omega)))
theorem Mq(a n:Int)(h:ae):∃h',W.call 30 [im a,im n] h=some (.ret (.tuple [im (iL a n),im (lG a)]),h')/\Ext h h':=by
 have ca:=rF a
 have z3:=zc3
 have a3:=ag3
 unfold iL lG
 by_cases ha:aX a=true
 rotate_left 1
 ·have ha':aX a=false:=by simpa using ha
  rw[if_neg ha,if_neg ha]
  rw[ha'] at ca
  unfold im at *
  refine dL rfl Tryz.func30 rfl ?_
  repeat' (first|simp(maxSteps:=999999) (disch:=first|exact dZ|fail) only[gW,reduceIte,Nat.reduceEqDiff,beq_self_eq_true,OJ,st3,ld3,tx,az, *] | (refine dX ?_ ?_<;>(intro _;try omega)))
  exact⟨_,rfl,.push _ _⟩
 rw[if_pos ha,if_pos ha]
 rw[ha] at ca
 obtain⟨x,rfl,-,x1,x2⟩:=px ha
 clear ha
 have cl:=Je [n] .tight (by simp)
 rw[Dp] at cl
 obtain⟨m,hm⟩:∃m:Nat,fmod n=m:=⟨(fmod n).toNat,(mN n).symm⟩
 have hmQ:m<Q:=by
  have:=Ep n
  rw[hm,Int.toNat_natCast] at this;exact this
 have he:aY (x:Int).toNat n=y7 x m:=by
  unfold aY
  rw[hm,Int.toNat_natCast,Int.toNat_natCast]
 rw[he]
 rw[hm] at cl
 have bl:aN Tryz.prog 23 1 [(0,im n)]=some (.list .tight 1 (ints [n])):=kZq
 have bx:∀n:Int,(im n).aC=some [im n]:=fun _=>rfl
 have csq:=fun H=>Dq (x:Nat) (m:Nat) H
 have hstart:=pN.start (n:=m) x2 (Nat.lt_trans hmQ (by decide))
 generalize y7 x m=r at *
 clear he hm
 have kS:=ah.mk (And.intro hstart (And.intro x2 (And.intro hmQ x1)))
 clear hstart x2 hmQ x1
 unfold im at *
 refine dL rfl Tryz.func30 rfl ?_
 repeat' (first|simp(maxSteps:=999999) (disch:=first|exact dZ|fail) only[gW,reduceIte,Nat.reduceEqDiff,beq_self_eq_true,OJ,st3,ld3,tx,az, *] | (refine dX ?_ ?_<;>(intro _;try omega)))
 refine Run.gen fun e he hd hp hro=>?_
 have g4:e.get 4= .ptr (.box h.boxes.length) 0:=by rw[he];exact gS
 have g15:e.get 15= .func (.func 147) [] [.ptr (.box (h.boxes.length+1+1)) 0,.ptr (.box (h.boxes.length+1)) 0]:=by rw[he];exact gS
 have hdf:e.defers=[]:=by rw[hd];exact gS
 clear he hd hp hro
 refine kD (by rw[lv];exact g15) fun rec w1 w2 w3 w4 w5 w6=>?_
 have hL:(((h.push [AV.v (.int .i64 1)]).push [AV.v (.int .i64 (x:Nat))]).push [AV.v (.int .i64 (m:Nat))]).loops.length=h.loops.length:=rfl
 rw[hL]
 have PR:A6 h.loops.length h.boxes.length rec:=by
  intro s c b H hs hc hl hb
  obtain⟨m1,m2,-⟩:=mul_tmod hc hs
  have e1:((c:Nat):Int) * (s:Nat)=((c * s:Nat):Int):=(Int.natCast_mul _ _).symm
  have e3:((c * s:Nat):Int).tmod 2147483579=((c * s%P:Nat):Int):=rE (c * s) 2147483579
  rw[e1] at m1 m2
  have r1:∀t,(dD h.loops.length rec [im (s:Nat),.v (.bool b)]).get t=if 17=t then .v (.bool b) else if 16=t then im (s:Nat) else e.get t:=fun t=>jn w2 w1
  have hb2:(H.busy h.loops.length rec).boxes[h.boxes.length]?=some [im (c:Nat)]:=hb
  have l1:=ld3 hb2
  have hl2:=hb
  have s1:=fun n=>st3 (n:=n) hb2
  refine jT hl (by rw[w2];rfl) ?_
  rw[w3]
  unfold im at *
  refine Run.gen fun e2 he2 hd2 hp2 hro2=>?_
  have q16:e2.get 16= .v (.int .i64 (s:Nat)):=by rw[he2,r1];rfl
  have q17:e2.get 17= .v (.bool b):=by rw[he2,r1];rfl
  have q4:e2.get 4= .ptr (.box h.boxes.length) 0:=by rw[he2,r1];exact g4
  clear he2 r1 g4 g15 cl csq ca bl
  have hll:h.loops.length<H.loops.length:=(List.getElem?_eq_some_iff.1 hl).1
  have hsame:H.loops.set h.loops.length rec=H.loops:=by
   apply List.ext_getElem?
   intro k
   rw[List.getElem?_set]
   split
   ·rename_i e;subst e
    exact hl.symm
   ·rfl
  have hrec:{rec with state:=LoopState.ready,pending:=none}=rec:=by
   cases rec;cases w5;cases w6;rfl
  cases b with
  |true=>
   repeat' (first|simp(maxSteps:=999999) (disch:=first|exact dZ|fail) only[gW,reduceIte,Nat.reduceEqDiff,beq_self_eq_true, *] | (refine dX ?_ ?_<;>(intro _;try omega)))
   refine⟨trivial,rec,rfl,w5,?_⟩
   repeat' (first|simp(maxSteps:=999999) (disch:=first|exact dZ|fail) only[gW,reduceIte,Nat.reduceEqDiff,beq_self_eq_true,l1,s1, *] | (refine dX ?_ ?_<;>(intro _;try omega)))
   refine⟨{rec with state:= .busy},?_,rfl,?_⟩
   ·show(H.loops.set h.loops.length _)[h.loops.length]?=_
    simp[hll]
   ·show(H.put h.boxes.length _)=_
    simp only[ae.put,ae.busy,List.set_set,hrec,hsame]
  |false=>
   repeat' (first|simp(maxSteps:=999999) (disch:=first|exact dZ|fail) only[gW,reduceIte,Nat.reduceEqDiff,beq_self_eq_true, *] | (refine dX ?_ ?_<;>(intro _;try omega)))
   refine⟨trivial,rec,rfl,w5,{rec with state:= .busy},?_,rfl,?_⟩
   ·show(H.loops.set h.loops.length _)[h.loops.length]?=_
    simp[hll]
   ·have hq:H.put h.boxes.length [AV.v (Value.int IntKind.i64 (c:Nat))]=H:=ec hl2
    refine(show H.put h.boxes.length _=H from hq).trans ?_
    simp only[ae.busy,List.set_set,hrec,hsame]
 have hb0:∀{z:bE},((((h.push [AV.v (.int .i64 1)]).push [AV.v (.int .i64 (x:Nat))]).push [AV.v (.int .i64 (m:Nat))]).loop z).boxes[h.boxes.length]?=some [im ((1:Nat):Int)]:=fun{z}=>aj (aj (ak _ _))
 have hb1:∀{z:bE},((((h.push [AV.v (.int .i64 1)]).push [AV.v (.int .i64 (x:Nat))]).push [AV.v (.int .i64 (m:Nat))]).loop z).boxes[h.boxes.length+1]?=some [im (x:Nat)]:=fun{z}=>aj (cD (by rw[az]))
 have hb2:∀{z:bE},((((h.push [AV.v (.int .i64 1)]).push [AV.v (.int .i64 (x:Nat))]).push [AV.v (.int .i64 (m:Nat))]).loop z).boxes[h.boxes.length+1+1]?=some [im (m:Nat)]:=fun{z}=>cD (by rw[az,az])
 have hlr:=@kC (((h.push [AV.v (.int .i64 1)]).push [AV.v (.int .i64 (x:Nat))]).push [AV.v (.int .i64 (m:Nat))]) rec
 have hmQ:=kS.out.2.2.1
 obtain⟨h',c1,c2,c3,c4⟩:=OK h.loops.length (h.boxes.length+1+1) (h.boxes.length+1) h.boxes.length rec PR (by omega) (by omega) (by omega) r m x 1 (by unfold Q at hmQ;omega) kS.out.1 _ hb2 hb1 hb0 hlr
 refine⟨_,h',c1,rec,by rw[c3];exact hlr,by rw[w5];decide,.inl ⟨w6,?_⟩⟩
 have hX:Ext h h':=c4 h ((((Ext.push h _).trans (Ext.push _ _)).trans (Ext.push _ _)).trans ((Fr.lD (bn:=h.boxes.length+3) (l0:=h.loops.length) (n0:=h.tn) _ _).ext (by simp only[az];omega) (Nat.le_refl _) (Nat.le_refl _))) (by omega) (by omega) (Nat.le_refl _)
 have hlt:h.boxes.length<h'.boxes.length:=(List.getElem?_eq_some_iff.1 c2).1
 generalize hH:h'.bh h.loops.length {rec with state:= .exhausted}=H
 have hb:H.boxes[h.boxes.length]?=some [im (r:Nat)]:=by rw[<-hH];exact c2
 have hX2:Ext h H:=by
  rw[<-hH]
  exact((Fr.sF (bn:=h.boxes.length) (l0:=h.loops.length) (n0:=h.tn) hX (Nat.le_refl _)).trans (.bh (Nat.le_refl _) _)).ext (Nat.le_refl _) (Nat.le_refl _) (Nat.le_refl _)
 clear c1 c2 c3 c4 hH hlr hb0 hb1 hb2 PR w1 w2 w3 w4 w5 w6 hX hlt
 have l1:=ld3 hb
 unfold im at *
 have s1:=fun n=>st3 (n:=n) hb
 have l2:∀y,ai Tryz.prog Gt (H.put h.boxes.length [.v (.int .i64 y)]) 3 (.ptr (.box h.boxes.length) 0)=some (.v (.int .i64 y)):=fun y=>ld3 (aS (List.getElem?_eq_some_iff.1 hb).1)
 repeat' (first|simp(maxSteps:=999999) (disch:=first|exact dZ|fail) only[gW,reduceIte,Nat.reduceEqDiff,beq_self_eq_true,OJ, *] | (refine dX ?_ ?_<;>(intro _;try omega)))
 exact⟨_,rfl,hX2.bZ (Nat.le_refl _) _⟩
abbrev u8s(b:List UInt8):List (List AV):=b.map dp
theorem Ns:Tryz.f220.results.toList=[.tmp 2]:=kZq
theorem p8:Tryz.f221.results.toList=[.tmp 4]:=kZq
theorem Nt:Tryz.f222.results.toList=[.tmp 8]:=kZq
theorem ag5:cZ Tryz.prog 5=some false:=kZq
theorem sz5:bF Tryz.prog 5=some 1:=kZq
theorem OL(n:Int)(h:ae):fm Tryz.prog h 5 42 (.v (.int .u8 n))=some (.v (.int .u32 (IntKind.u32.wrap n)),h):=kZq
theorem gN(n:Int)(h:ae):fm Tryz.prog h 3 179 (.v (.int .i64 n))=some (.v (.int .u64 (IntKind.u64.wrap n)),h):=kZq
def lT(b:List UInt8):Nat->Nat
 |0=>0
 |i+1=>lT b i * 256+(bAt b i).toNat
theorem A7(b:UInt8):b.toNat<256:=b.toNat_lt
theorem Eu(b:List UInt8):∀i,lT b i<256^i
 |0=>Nat.zero_lt_one
 |i+1=>by
  have:=Eu b i
  have:=A7 (bAt b i)
  unfold lT
  rw[Nat.pow_succ]
  omega
theorem Jg(b:List UInt8):BitVec.ofNat 32 (lT b 4)=rz b 0:=by
 unfold rz
 refine congrArg (BitVec.ofNat 32) ?_
 show(((0 * 256+(bAt b 0).toNat) * 256+(bAt b 1).toNat) * 256+(bAt b 2).toNat) * 256+(bAt b 3).toNat=((bAt b 0).toNat * 256+(bAt b 1).toNat) * 256 * 256+(bAt b 2).toNat * 256+(bAt b 3).toNat
 omega
theorem or8{t:TypeId}{x y:Operand}{n m:Nat}(hn:n<16777216)(hm:m<256):bB Tryz.prog .or t x y (w32 (BitVec.ofNat 32 n<<<8)) (.v (.int .u32 (IntKind.u32.wrap (m:Nat))))=some (w32 (BitVec.ofNat 32 (n * 256+m))):=by
 have e1:AV.v (.int .u32 (IntKind.u32.wrap (m:Nat)))=w32 (BitVec.ofNat 32 m):=by
  unfold w32
  rw[wrap32,BitVec.toNat_ofNat]
  congr 2
 rw[e1,pM]
 congr 2
 apply BitVec.eq_of_toNat_eq
 rw[BitVec.toNat_or,BitVec.toNat_shiftLeft,BitVec.toNat_ofNat,BitVec.toNat_ofNat,BitVec.toNat_ofNat]
 have:n%2^32=n:=Nat.mod_eq_of_lt (by omega)
 rw[this]
 have h1:n<<<8=n * 256:=by rw[Nat.shiftLeft_eq]
 have h2:n<<<8%2^32=n<<<8:=Nat.mod_eq_of_lt (by omega)
 rw[h2,Nat.mod_eq_of_lt (show m<2^32 by omega),<-Nat.shiftLeft_add_eq_or_of_lt (show m<2^8 by omega),h1]
 exact(Nat.mod_eq_of_lt (by omega)).symm
theorem SI{t:TypeId}{x y:Operand}{u:BitVec 32}:bB Tryz.prog .shl t x y (w32 u) (.v (.int .u64 8))=some (w32 (u<<<8)):=oE (n:=8) (by decide)
theorem Mr(b:List UInt8)(x:AV)(h:ae)(s:b9 1 h x (u8s b))(hb:4<=b.length):W.call 220 [x] h=some (.ret (w32 (rz b 0)),h):=by
 have u28:=Tryz.underlying28
 have a5:=ag5;have s5:=sz5
 obtain⟨y,y1,y2⟩:=s.slice (t:=28) (lo:=none) (hi:=some (.v (.int .i64 4))) (l:=0) (m:=4) (by decide) u28 sz5 (.inr ⟨.i64,rfl,by simpa using hb⟩) (.inl ⟨rfl,rfl⟩) (by decide)
 have y3:=y2.len u28
 rw[show((List.take 4 (u8s b)).drop 0).length=4 by simp;omega] at y3
 have kY:=ah.mk y2
 clear s y2
 refine ar rfl Tryz.func220 rfl ?_
 repeat' (first|simp(maxSteps:=999999) (disch:=first|exact dZ|fail) only[gW,reduceIte,Nat.reduceEqDiff,beq_self_eq_true,Ns, *] | (refine dX ?_ ?_<;>(intro _;try omega)) |refine aP kZq ?_)
 refine aD (fun m e h'=>∃i:Nat,i<=4/\m=4 - i/\e.get 6=y/\e.get 7= .v (.int .i64 (4:Nat))/\e.get 8= .v (.int .i64 i)/\e.get 2=w32 (BitVec.ofNat 32 (lT b i))/\e.defers=[]/\h'=h) ?_ 4 _ _ ?_
 rotate_left 1
 ·refine⟨0,Nat.zero_le _,rfl,?_,?_,?_,?_,?_,rfl⟩<;>(first|assumption| (exact gR))
 rintro m e h' ⟨i,hi,rfl,g6,g7,g8,g2,hd,rfl⟩
 by_cases hc:i=4
 ·subst hc
  rw[Jg] at g2
  repeat' (first|simp(maxSteps:=999999) (disch:=first|exact dZ|fail) only[gW,reduceIte,Nat.reduceEqDiff,beq_self_eq_true,Ns, *] | (refine dX ?_ ?_<;>(intro _;try omega)) |refine aP kZq ?_)
 ·have hlt:i<4:=by omega
  have hb2:i<b.length:=by omega
  obtain⟨p,p1,p2,-⟩:=kY.out.index (G:=Gt) (t:=28) (i:=i) (row:=dp (b[i])) (by decide) u28 sz5 (by simp[hlt,hb2])
  have p4:=p2 ag5
  have e1:(dp b[i]).head?=some (.v (.int .u8 (((bAt b i).toNat:Nat):Int))):=by
   unfold bAt
   rw[List.getD_eq_getElem?_getD,List.getElem?_eq_getElem hb2];rfl
  rw[e1] at p4
  have l1:=Eu b i
  have l2:lT b i<16777216:=Nat.lt_of_lt_of_le l1 (by
   have:256^i<=256^3:=Nat.pow_le_pow_right (by decide) (by omega)
   exact this)
  have l3:=A7 (bAt b i)
  clear p2 e1 l1
  repeat' (first|simp(maxSteps:=999999) (disch:=first|exact dZ|fail) only[gW,reduceIte,Nat.reduceEqDiff,beq_self_eq_true,OL,or8,SI, *] | (refine dX ?_ ?_<;>(intro _;try omega)) |refine aP kZq ?_)
  refine⟨4 - (i+1),by omega,i+1,by omega,rfl,trivial,trivial,?_,?_,trivial,trivial⟩
  ·rfl
  ·rfl
theorem wE(v:U32)(n:Nat)(hn:n<32):(v<<<(32 - n)) ||| (v>>>n)=NT.ror v n:=by unfold NT.ror;rw[BitVec.or_comm]
theorem SJ(v:U32)(h:ae):W.call 221 [w32 v,.v (.int .i64 (-2))] h=some (.ret (w32 (NT.ror v 2)),h):=by
 have c1:∀(t:TypeId) (x y:Operand),bB Tryz.prog .and t x y (.v (.int .u64 (IntKind.u64.wrap (-2)))) (.v (.int .u64 31))=some (.v (.int .u64 30)):=fun t x y=>by rw[fQ];rfl
 have c2:∀(t:TypeId) (x y:Operand),bB Tryz.prog .shl t x y (w32 v) (.v (.int .u64 30))=some (w32 (v<<<30)):=fun t x y=>oE (n:=30) (by decide)
 have c3:∀(t:TypeId) (x y:Operand),bB Tryz.prog .shr t x y (w32 v) (.v (.int .u64 (IntKind.u64.wrap (32 - 30))))=some (w32 (v>>>2)):=fun t x y=>nQ (n:=2) (by decide)
 have c4:=wE v 2 (by decide)
 refine ar rfl Tryz.func221 rfl ?_
 repeat' (first|simp(maxSteps:=999999) (disch:=first|exact dZ|fail) only[gW,reduceIte,Nat.reduceEqDiff,beq_self_eq_true,p8,gN,pM, *] | (refine dX ?_ ?_<;>(intro _;try omega)) |refine aP kZq ?_)
theorem SK(v:U32)(h:ae):W.call 221 [w32 v,.v (.int .i64 (-6))] h=some (.ret (w32 (NT.ror v 6)),h):=by
 have c1:∀(t:TypeId) (x y:Operand),bB Tryz.prog .and t x y (.v (.int .u64 (IntKind.u64.wrap (-6)))) (.v (.int .u64 31))=some (.v (.int .u64 26)):=fun t x y=>by rw[fQ];rfl
 have c2:∀(t:TypeId) (x y:Operand),bB Tryz.prog .shl t x y (w32 v) (.v (.int .u64 26))=some (w32 (v<<<26)):=fun t x y=>oE (n:=26) (by decide)
 have c3:∀(t:TypeId) (x y:Operand),bB Tryz.prog .shr t x y (w32 v) (.v (.int .u64 (IntKind.u64.wrap (32 - 26))))=some (w32 (v>>>6)):=fun t x y=>nQ (n:=6) (by decide)
 have c4:=wE v 6 (by decide)
 refine ar rfl Tryz.func221 rfl ?_
 repeat' (first|simp(maxSteps:=999999) (disch:=first|exact dZ|fail) only[gW,reduceIte,Nat.reduceEqDiff,beq_self_eq_true,p8,gN,pM, *] | (refine dX ?_ ?_<;>(intro _;try omega)) |refine aP kZq ?_)
theorem SM(v:U32)(h:ae):W.call 221 [w32 v,.v (.int .i64 (-7))] h=some (.ret (w32 (NT.ror v 7)),h):=by
 have c1:∀(t:TypeId) (x y:Operand),bB Tryz.prog .and t x y (.v (.int .u64 (IntKind.u64.wrap (-7)))) (.v (.int .u64 31))=some (.v (.int .u64 25)):=fun t x y=>by rw[fQ];rfl
 have c2:∀(t:TypeId) (x y:Operand),bB Tryz.prog .shl t x y (w32 v) (.v (.int .u64 25))=some (w32 (v<<<25)):=fun t x y=>oE (n:=25) (by decide)
 have c3:∀(t:TypeId) (x y:Operand),bB Tryz.prog .shr t x y (w32 v) (.v (.int .u64 (IntKind.u64.wrap (32 - 25))))=some (w32 (v>>>7)):=fun t x y=>nQ (n:=7) (by decide)
 have c4:=wE v 7 (by decide)
 refine ar rfl Tryz.func221 rfl ?_
 repeat' (first|simp(maxSteps:=999999) (disch:=first|exact dZ|fail) only[gW,reduceIte,Nat.reduceEqDiff,beq_self_eq_true,p8,gN,pM, *] | (refine dX ?_ ?_<;>(intro _;try omega)) |refine aP kZq ?_)
theorem Qt(v:U32)(h:ae):W.call 221 [w32 v,.v (.int .i64 (-11))] h=some (.ret (w32 (NT.ror v 11)),h):=by
 have c1:∀(t:TypeId) (x y:Operand),bB Tryz.prog .and t x y (.v (.int .u64 (IntKind.u64.wrap (-11)))) (.v (.int .u64 31))=some (.v (.int .u64 21)):=fun t x y=>by rw[fQ];rfl
 have c2:∀(t:TypeId) (x y:Operand),bB Tryz.prog .shl t x y (w32 v) (.v (.int .u64 21))=some (w32 (v<<<21)):=fun t x y=>oE (n:=21) (by decide)
 have c3:∀(t:TypeId) (x y:Operand),bB Tryz.prog .shr t x y (w32 v) (.v (.int .u64 (IntKind.u64.wrap (32 - 21))))=some (w32 (v>>>11)):=fun t x y=>nQ (n:=11) (by decide)
 have c4:=wE v 11 (by decide)
 refine ar rfl Tryz.func221 rfl ?_
 repeat' (first|simp(maxSteps:=999999) (disch:=first|exact dZ|fail) only[gW,reduceIte,Nat.reduceEqDiff,beq_self_eq_true,p8,gN,pM, *] | (refine dX ?_ ?_<;>(intro _;try omega)) |refine aP kZq ?_)
theorem Qu(v:U32)(h:ae):W.call 221 [w32 v,.v (.int .i64 (-13))] h=some (.ret (w32 (NT.ror v 13)),h):=by
 have c1:∀(t:TypeId) (x y:Operand),bB Tryz.prog .and t x y (.v (.int .u64 (IntKind.u64.wrap (-13)))) (.v (.int .u64 31))=some (.v (.int .u64 19)):=fun t x y=>by rw[fQ];rfl
 have c2:∀(t:TypeId) (x y:Operand),bB Tryz.prog .shl t x y (w32 v) (.v (.int .u64 19))=some (w32 (v<<<19)):=fun t x y=>oE (n:=19) (by decide)
 have c3:∀(t:TypeId) (x y:Operand),bB Tryz.prog .shr t x y (w32 v) (.v (.int .u64 (IntKind.u64.wrap (32 - 19))))=some (w32 (v>>>13)):=fun t x y=>nQ (n:=13) (by decide)
 have c4:=wE v 13 (by decide)
 refine ar rfl Tryz.func221 rfl ?_
 repeat' (first|simp(maxSteps:=999999) (disch:=first|exact dZ|fail) only[gW,reduceIte,Nat.reduceEqDiff,beq_self_eq_true,p8,gN,pM, *] | (refine dX ?_ ?_<;>(intro _;try omega)) |refine aP kZq ?_)
theorem Qv(v:U32)(h:ae):W.call 221 [w32 v,.v (.int .i64 (-17))] h=some (.ret (w32 (NT.ror v 17)),h):=by
 have c1:∀(t:TypeId) (x y:Operand),bB Tryz.prog .and t x y (.v (.int .u64 (IntKind.u64.wrap (-17)))) (.v (.int .u64 31))=some (.v (.int .u64 15)):=fun t x y=>by rw[fQ];rfl
 have c2:∀(t:TypeId) (x y:Operand),bB Tryz.prog .shl t x y (w32 v) (.v (.int .u64 15))=some (w32 (v<<<15)):=fun t x y=>oE (n:=15) (by decide)
 have c3:∀(t:TypeId) (x y:Operand),bB Tryz.prog .shr t x y (w32 v) (.v (.int .u64 (IntKind.u64.wrap (32 - 15))))=some (w32 (v>>>17)):=fun t x y=>nQ (n:=17) (by decide)
 have c4:=wE v 17 (by decide)
 refine ar rfl Tryz.func221 rfl ?_
 repeat' (first|simp(maxSteps:=999999) (disch:=first|exact dZ|fail) only[gW,reduceIte,Nat.reduceEqDiff,beq_self_eq_true,p8,gN,pM, *] | (refine dX ?_ ?_<;>(intro _;try omega)) |refine aP kZq ?_)
theorem Qw(v:U32)(h:ae):W.call 221 [w32 v,.v (.int .i64 (-18))] h=some (.ret (w32 (NT.ror v 18)),h):=by
 have c1:∀(t:TypeId) (x y:Operand),bB Tryz.prog .and t x y (.v (.int .u64 (IntKind.u64.wrap (-18)))) (.v (.int .u64 31))=some (.v (.int .u64 14)):=fun t x y=>by rw[fQ];rfl
 have c2:∀(t:TypeId) (x y:Operand),bB Tryz.prog .shl t x y (w32 v) (.v (.int .u64 14))=some (w32 (v<<<14)):=fun t x y=>oE (n:=14) (by decide)
 have c3:∀(t:TypeId) (x y:Operand),bB Tryz.prog .shr t x y (w32 v) (.v (.int .u64 (IntKind.u64.wrap (32 - 14))))=some (w32 (v>>>18)):=fun t x y=>nQ (n:=18) (by decide)
 have c4:=wE v 18 (by decide)
 refine ar rfl Tryz.func221 rfl ?_
 repeat' (first|simp(maxSteps:=999999) (disch:=first|exact dZ|fail) only[gW,reduceIte,Nat.reduceEqDiff,beq_self_eq_true,p8,gN,pM, *] | (refine dX ?_ ?_<;>(intro _;try omega)) |refine aP kZq ?_)
theorem Qx(v:U32)(h:ae):W.call 221 [w32 v,.v (.int .i64 (-19))] h=some (.ret (w32 (NT.ror v 19)),h):=by
 have c1:∀(t:TypeId) (x y:Operand),bB Tryz.prog .and t x y (.v (.int .u64 (IntKind.u64.wrap (-19)))) (.v (.int .u64 31))=some (.v (.int .u64 13)):=fun t x y=>by rw[fQ];rfl
 have c2:∀(t:TypeId) (x y:Operand),bB Tryz.prog .shl t x y (w32 v) (.v (.int .u64 13))=some (w32 (v<<<13)):=fun t x y=>oE (n:=13) (by decide)
 have c3:∀(t:TypeId) (x y:Operand),bB Tryz.prog .shr t x y (w32 v) (.v (.int .u64 (IntKind.u64.wrap (32 - 13))))=some (w32 (v>>>19)):=fun t x y=>nQ (n:=19) (by decide)
 have c4:=wE v 19 (by decide)
 refine ar rfl Tryz.func221 rfl ?_
 repeat' (first|simp(maxSteps:=999999) (disch:=first|exact dZ|fail) only[gW,reduceIte,Nat.reduceEqDiff,beq_self_eq_true,p8,gN,pM, *] | (refine dX ?_ ?_<;>(intro _;try omega)) |refine aP kZq ?_)
theorem Qy(v:U32)(h:ae):W.call 221 [w32 v,.v (.int .i64 (-22))] h=some (.ret (w32 (NT.ror v 22)),h):=by
 have c1:∀(t:TypeId) (x y:Operand),bB Tryz.prog .and t x y (.v (.int .u64 (IntKind.u64.wrap (-22)))) (.v (.int .u64 31))=some (.v (.int .u64 10)):=fun t x y=>by rw[fQ];rfl
 have c2:∀(t:TypeId) (x y:Operand),bB Tryz.prog .shl t x y (w32 v) (.v (.int .u64 10))=some (w32 (v<<<10)):=fun t x y=>oE (n:=10) (by decide)
 have c3:∀(t:TypeId) (x y:Operand),bB Tryz.prog .shr t x y (w32 v) (.v (.int .u64 (IntKind.u64.wrap (32 - 10))))=some (w32 (v>>>22)):=fun t x y=>nQ (n:=22) (by decide)
 have c4:=wE v 22 (by decide)
 refine ar rfl Tryz.func221 rfl ?_
 repeat' (first|simp(maxSteps:=999999) (disch:=first|exact dZ|fail) only[gW,reduceIte,Nat.reduceEqDiff,beq_self_eq_true,p8,gN,pM, *] | (refine dX ?_ ?_<;>(intro _;try omega)) |refine aP kZq ?_)
theorem Qz(v:U32)(h:ae):W.call 221 [w32 v,.v (.int .i64 (-25))] h=some (.ret (w32 (NT.ror v 25)),h):=by
 have c1:∀(t:TypeId) (x y:Operand),bB Tryz.prog .and t x y (.v (.int .u64 (IntKind.u64.wrap (-25)))) (.v (.int .u64 31))=some (.v (.int .u64 7)):=fun t x y=>by rw[fQ];rfl
 have c2:∀(t:TypeId) (x y:Operand),bB Tryz.prog .shl t x y (w32 v) (.v (.int .u64 7))=some (w32 (v<<<7)):=fun t x y=>oE (n:=7) (by decide)
 have c3:∀(t:TypeId) (x y:Operand),bB Tryz.prog .shr t x y (w32 v) (.v (.int .u64 (IntKind.u64.wrap (32 - 7))))=some (w32 (v>>>25)):=fun t x y=>nQ (n:=25) (by decide)
 have c4:=wE v 25 (by decide)
 refine ar rfl Tryz.func221 rfl ?_
 repeat' (first|simp(maxSteps:=999999) (disch:=first|exact dZ|fail) only[gW,reduceIte,Nat.reduceEqDiff,beq_self_eq_true,p8,gN,pM, *] | (refine dX ?_ ?_<;>(intro _;try omega)) |refine aP kZq ?_)
theorem Jh(v:U32)(h:ae):W.call 222 [w32 v,.v (.int .i64 6),.v (.int .i64 11),.v (.int .i64 25)] h=some (.ret (w32 (NT.ror v 6^^^NT.ror v 11^^^NT.ror v 25)),h):=by
 have w1:IntKind.i64.wrap (0 - 6)= -6:=by decide
 have w2:IntKind.i64.wrap (0 - 11)= -11:=by decide
 have w3:IntKind.i64.wrap (0 - 25)= -25:=by decide
 have c1:=SK v
 have c2:=Qt v
 have c3:=Qz v
 refine ar rfl Tryz.func222 rfl ?_
 repeat' (first|simp(maxSteps:=999999) (disch:=first|exact dZ|fail) only[gW,reduceIte,Nat.reduceEqDiff,beq_self_eq_true,Nt,jP, *] | (refine dX ?_ ?_<;>(intro _;try omega)) |refine aP kZq ?_)
theorem Ji(v:U32)(h:ae):W.call 222 [w32 v,.v (.int .i64 2),.v (.int .i64 13),.v (.int .i64 22)] h=some (.ret (w32 (NT.ror v 2^^^NT.ror v 13^^^NT.ror v 22)),h):=by
 have w1:IntKind.i64.wrap (0 - 2)= -2:=by decide
 have w2:IntKind.i64.wrap (0 - 13)= -13:=by decide
 have w3:IntKind.i64.wrap (0 - 22)= -22:=by decide
 have c1:=SJ v
 have c2:=Qu v
 have c3:=Qy v
 refine ar rfl Tryz.func222 rfl ?_
 repeat' (first|simp(maxSteps:=999999) (disch:=first|exact dZ|fail) only[gW,reduceIte,Nat.reduceEqDiff,beq_self_eq_true,Nt,jP, *] | (refine dX ?_ ?_<;>(intro _;try omega)) |refine aP kZq ?_)
theorem lH:Tryz.f204.results.toList=[]:=kZq
theorem Jj:cZ Tryz.prog 42=some false:=kZq
theorem zf:bF Tryz.prog 42=some 1:=kZq
theorem Ev:cZ Tryz.prog 230=some true:=kZq
theorem xv:bF Tryz.prog 230=some 8:=kZq
theorem QA:(ej Tryz.prog 242).bind AV.aC=some (List.replicate 64 (w32 0#32)):=kZq
theorem Nu:(ej Tryz.prog 230).bind AV.aC=some (List.replicate 8 (w32 0#32)):=kZq
abbrev ek(l:List U32):List AV:=l.map w32
theorem vk{b n:Nat}{k:IntKind}(hn:n<64):ay Tryz.prog 242 (.ptr (.box b) 0) (.v (.int k (n:Nat)))=some (.ptr (.box b) n):=by
 have hu:=Tryz.underlying242
 unfold ay
 rw[hu]
 simp only[zf]
 rw[if_pos ⟨by omega,by omega⟩]
 simp
theorem OM{g n:Nat}{k:IntKind}(hn:n<64):ay Tryz.prog 242 (.ptr (.dW g) 0) (.v (.int k (n:Nat)))=some (.ptr (.dW g) n):=by
 have hu:=Tryz.underlying242
 unfold ay
 rw[hu]
 simp only[zf]
 rw[if_pos ⟨by omega,by omega⟩]
 simp
theorem rG{b n:Nat}{k:IntKind}(hn:n<8):ay Tryz.prog 230 (.ptr (.box b) 0) (.v (.int k (n:Nat)))=some (.ptr (.box b) n):=by
 have hu:=Tryz.underlying230
 unfold ay
 rw[hu]
 simp only[zf]
 rw[if_pos ⟨by omega,by omega⟩]
 simp
theorem Dr{H:ae}{b n:Nat}{l:List U32}(hb:H.boxes[b]?=some (ek l))(hn:n<l.length):ai Tryz.prog Gt H 42 (.ptr (.box b) n)=some (w32 (wAt l n)):=by
 rw[dc Jj hb,List.head?_drop,wAt,List.getD_eq_getElem?_getD,List.getElem?_map,List.getElem?_eq_getElem hn];rfl
theorem ON{H:ae}{b n:Nat}{l:List U32}{x:U32}(hb:H.boxes[b]?=some (ek l))(hn:n<l.length):aA Tryz.prog H 42 (.ptr (.box b) n) (w32 x)=some (H.put b (ek (l.set n x))):=by
 have h1:n+1<=(ek l).length:=by rw[List.length_map];omega
 rw[aW (xs:=[w32 x]) rfl zf hb rfl h1]
 congr 2
 unfold bI ek
 rw[List.set_eq_take_append_cons_drop,if_pos hn]
 simp
theorem QB{H:ae}{t:Nat}(ht:t<64):ai Tryz.prog Gt H 42 (.ptr (.dW 1) t)=some (w32 (kAt t)):=by
 have hl:t<xo.length:=ht
 unfold ai
 rw[Jj]
 show((oM.drop t).head?)=_
 rw[List.head?_drop]
 unfold oM kAt
 rw[List.getElem?_map,List.getD_eq_getElem?_getD,List.getElem?_eq_getElem hl]
 show some _=some (w32 (BitVec.ofNat 32 xo[t]))
 unfold w32
 rw[BitVec.toNat_ofNat]
 have:∀x∈xo,x<2^32:=by decide
 rw[Nat.mod_eq_of_lt (this _ (List.getElem_mem hl))]
theorem mQ(b:List UInt8):∀n,(eP b n).length=n
 |0=>rfl
 |n+1=>by rw[eP,List.length_append,mQ b n];rfl
def wl(b:List UInt8)(i:Nat):List U32:=eP b i++List.replicate (64 - i) 0#32
theorem sI{b:List UInt8}{i:Nat}(hi:i<=64):(wl b i).length=64:=by unfold wl;rw[List.length_append,mQ,List.length_replicate];omega
theorem QC{b:List UInt8}{i k:Nat}(hk:k<i):wAt (wl b i) k=wAt (eP b i) k:=by
 unfold wl wAt
 rw[List.getD_eq_getElem?_getD,List.getElem?_append_left (by rw[mQ];exact hk),List.getD_eq_getElem?_getD]
theorem Jk{b:List UInt8}{i:Nat}{x:U32}(hi:i<64)(hx:x=if i<16 then rz b (4 * i) else En (eP b i) i):(wl b i).set i x=wl b (i+1):=by
 subst hx
 unfold wl
 have h1:=mQ b i
 obtain⟨k,hk⟩:∃k,64 - i=k+1:=⟨63 - i,by omega⟩
 rw[List.set_append_right _ _ (by omega),h1,Nat.sub_self,hk,List.replicate_succ,List.set_cons_zero,show 64 - (i+1)=k by omega,eP,List.append_assoc]
 rfl
theorem Ms(b:List UInt8):ek (wl b 0)=List.replicate 64 (w32 0#32):=by
 show List.map w32 ([]++List.replicate 64 0#32)=_
 rw[List.nil_append,List.map_replicate]
theorem OO(b:List UInt8):wl b 64=eP b 64:=by unfold wl;simp
theorem Ds(b:List UInt8)(k:Nat):rz (b.drop k) 0=rz b k:=by
 unfold rz bAt
 simp only[List.getD_eq_getElem?_getD,List.getElem?_drop,Nat.add_zero,Nat.zero_add]
theorem Gg(w v:List U32)(t:Nat)(a b c d e f g i:U32)(hv:v=[a,b,c,d,e,f,g,i]):zd w v t=
 [i+(NT.ror e 6^^^NT.ror e 11^^^NT.ror e 25)+(g^^^(e&&&(f^^^g)))+kAt t+wAt w t+((NT.ror a 2^^^NT.ror a 13^^^NT.ror a 22)+((a&&&b) ||| (c&&&(a|||b)))),
  a,b,c,d+(i+(NT.ror e 6^^^NT.ror e 11^^^NT.ror e 25)+(g^^^(e&&&(f^^^g)))+kAt t+wAt w t),e,f,g]:=by
 subst hv
 rw[Qq,OD]
 rfl
theorem eight{l:List U32}(h:l.length=8):∃a b c d e f g i,l=[a,b,c,d,e,f,g,i]:=by
 match l,h with
 | [a,b,c,d,e,f,g,i],_=>exact⟨a,b,c,d,e,f,g,i,rfl⟩
def vF(s:List U32)(b:List UInt8)(t:Nat):List U32:=(List.range t).foldl (zd (eP b 64)) s
theorem Ew(s:List U32)(b:List UInt8)(t:Nat):vF s b (t+1)=zd (eP b 64) (vF s b t) t:=by
 unfold vF
 rw[List.range_succ,List.foldl_append];rfl
theorem Dt{s:List U32}(b:List UInt8)(hs:s.length=8):∀t,(vF s b t).length=8
 |0=>hs
 |t+1=>by rw[Ew];rfl
def rH(s v:List U32)(i:Nat):List U32:=List.zipWith (·+·) (s.take i) (v.take i)++s.drop i
theorem Gh{s v:List U32}(hs:s.length=8)(hv:v.length=8){i:Nat}(hi:i<=8):(rH s v i).length=8:=by
 unfold rH;simp;omega
theorem Jl{s v:List U32}(hs:s.length=8)(hv:v.length=8){i:Nat}(hi:i<8):wAt (rH s v i) i=wAt s i:=by
 unfold rH wAt
 rw[List.getD_eq_getElem?_getD,List.getElem?_append_right (by simp;omega),List.getElem?_drop,List.getD_eq_getElem?_getD]
 congr 2
 simp;omega
theorem Gi{s v:List U32}(hs:s.length=8)(hv:v.length=8){i:Nat}(hi:i<8):(rH s v i).set i (wAt s i+wAt v i)=rH s v (i+1):=by
 obtain⟨a,b,c,d,e,f,g,j,rfl⟩:=eight hs
 obtain⟨a',b',c',d',e',f',g',j',rfl⟩:=eight hv
 have:i=0∨i=1∨i=2∨i=3∨i=4∨i=5∨i=6∨i=7:=by omega
 rcases this with rfl|rfl|rfl|rfl|rfl|rfl|rfl|rfl<;>rfl
theorem Gj{s b:List U32}(hs:s.length=8)(hv:b.length=8):rH s b 8=List.zipWith (·+·) s b:=by
 unfold rH
 rw[List.take_of_length_le (by omega),List.take_of_length_le (by omega),List.drop_of_length_le (by omega),List.append_nil]
end Go.Proofs.YtnfciiiohoafaaaGreatDoor
end
section
namespace Go.AE
section
variable {b n0:Nat} {h h':ae}
theorem Mut.bZ(m:Mut b n0 h h'){c:Nat}(hc:h.boxes.length<=c)(cs:List AV):Mut b n0 h (h'.put c cs):=by
 refine⟨fun d ds hd hb=>?_,by rw[dU];exact m.len,m.loop,m.tn,m.dead,m.ok⟩
 have hlt:d<h.boxes.length:=(List.getElem?_eq_some_iff.1 hb).1
 rw[av (by omega)]
 exact m.box d ds hd hb
theorem Mut.push(m:Mut b n0 h h')(cs:List AV):Mut b n0 h (h'.push cs):=
 ⟨fun d ds hd hb=>aj (m.box d ds hd hb),by rw[az];exact Nat.le_succ_of_le m.len,m.loop,m.tn,m.dead,m.ok⟩
end
theorem Mut.tS{b n0 n1:Nat}{h h':ae}(m:Mut b n1 h h')(hn:n0<=n1):Mut b n0 h h':=⟨m.box,m.len,m.loop,m.tn,fun k hk hd=>m.dead k (Nat.lt_of_lt_of_le hk hn) hd,m.ok⟩
theorem bG.mut{b n0 n1:Nat}{h h':ae}{k:Tok}(hk:bG n0 h k)(m:Mut b n1 h h')(hn:h.tn<=n1):bG n0 h' k:=by
 rcases hk with q|q|⟨z,q,q2,q3⟩
 ·exact .inl q
 ·exact .inr (.inl q)
 ·refine .inr (.inr ⟨z,q,q2,?_⟩)
  unfold alive at q3 ⊢
  simp only[Bool.and_eq_true,decide_eq_true_eq,Bool.not_eq_true',List.contains_eq_mem,decide_eq_false_iff_not] at q3 ⊢
  exact⟨Nat.lt_of_lt_of_le q3.1 m.tn,fun hd=>q3.2 (m.dead z (Nat.lt_of_lt_of_le q3.1 hn) hd)⟩
end Go.AE
end
section
namespace Go.Proofs.YtnfciiiohoafaaaGreatDoor
open Go.AE Go.NT
theorem jX{t:TypeId}{x y:Operand}{u:BitVec 32}:bB Tryz.prog .shr t x y (w32 u) (.v (.int .u64 3))=some (w32 (u>>>3)):=nQ (n:=3) (by decide)
theorem iM{t:TypeId}{x y:Operand}{u:BitVec 32}:bB Tryz.prog .shr t x y (w32 u) (.v (.int .u64 10))=some (w32 (u>>>10)):=nQ (n:=10) (by decide)
theorem zh{s:List U32}(hs:s.length=8):(AV.agg (ek s)).aC=some (ek s):=by
 obtain⟨a,b,c,d,e,f,g,j,rfl⟩:=eight hs
 rfl
theorem xw(n:Nat):ek (List.replicate n 0#32)=List.replicate n (w32 0#32):=by simp[ek]
theorem gI{R:Rec}{c:Code}{e:Env}{h:ae}{I:Nat->Env->ae->Prop}{m:Nat}{Q0:Xt->Env->ae->Prop}(hq:∀Q,Run R c e h (uT I m Q)):Run R c e h (uT I m Q0):=hq Q0
theorem uj{h:ae}{b:Nat}{xs ys:List AV}:(h.put b xs).put b ys=h.put b ys:=by
 unfold ae.put
 simp only[List.set_set]
theorem ldp{H:ae}{b k:Nat}{cs:List AV}(hb:b<H.boxes.length):ai Tryz.prog Gt (H.put b cs) 42 (.ptr (.box b) k)=(cs.drop k).head?:=dc Jj (aS hb)
theorem stp{H:ae}{b k:Nat}{cs:List AV}{x:U32}(hb:b<H.boxes.length)(hk:k+1<=cs.length):aA Tryz.prog (H.put b cs) 42 (.ptr (.box b) k) (w32 x)=some (H.put b (cs.set k (w32 x))):=by
 rw[aW (xs:=[w32 x]) rfl zf (aS hb) rfl hk,uj]
 congr 2
 unfold bI
 rw[List.set_eq_take_append_cons_drop,if_pos (show k<cs.length from hk)]
 simp
theorem OP{b:Nat}:ck Tryz.prog 230 (.ptr (.box b) 0) (some (.v (.int .i64 1))) none none=some (.arr b 1 7 7):=kZq
theorem OQ{b:Nat}:ck Tryz.prog 230 (.ptr (.box b) 0) none (some (.v (.int .i64 7))) none=some (.arr b 0 7 8):=kZq
theorem QD{H:ae}{b:Nat}{a0 a1 a2 a3 a4 a5 a6 a7:AV}(hb:H.boxes[b]?=some [a0,a1,a2,a3,a4,a5,a6,a7]):oi Tryz.prog H #[43,43] (.arr b 1 7 7) (.arr b 0 7 8)=some (.v (.int .i64 7),H.put b [a0,a0,a1,a2,a3,a4,a5,a6]):=by
 have hn:eH H 1 (.arr b 0 7 8)=some [[a0],[a1],[a2],[a3],[a4],[a5],[a6]]:=by
  show rowsOf H 1 (.arr b 0 7 8)=_
  unfold rowsOf
  simp only[hb]
  rfl
 have hi:∃i,Tryz.prog.info? 42=some i/\i.size=1:=by
  have h42:=zf
  unfold bF at h42
  cases hq:Tryz.prog.info? 42 with
  |none=>rw[hq] at h42;cases h42
  |some i=>rw[hq] at h42;exact⟨i,rfl,by simpa using h42⟩
 obtain⟨i,h1,h2⟩:=hi
 have hu:((#[43,43]:Array Nat)[0]?).bind Tryz.prog.underlying=some (.slice 42):=kZq
 unfold oi
 rw[hu]
 simp only[h1,h2,hn,hb]
 rfl
theorem sJ(s:List U32)(b:List UInt8)(sb:Nat)(x:AV)(h:ae)(hs:s.length=8)(hb:64<=b.length)(hsb:h.boxes[sb]?=some (ek s))
 (hx:∀H,Mut sb h.tn h H->b9 1 H x (u8s b)):
 ∃h',W.call 204 [.ptr (.box sb) 0,x] h=some (.ret (.tuple []),h')/\h'.boxes[sb]?=some (ek (qy s b))/\Mut sb h.tn h h':=by
 have kX:=ah.mk hx
 clear hx
 have hslt:=(List.getElem?_eq_some_iff.1 hsb).1
 have kz:=ah.mk (Ms b)
 have z242:=QA
 refine dL rfl Tryz.func204 rfl ?_
 repeat' (first|simp(maxSteps:=999999) (disch:=first|exact dZ|fail) only[gW,reduceIte,Nat.reduceEqDiff,beq_self_eq_true,lH,az, *] | (refine dX ?_ ?_<;>(intro _;try omega)))
 refine aD (fun m e H=>∃i:Nat,i<=16/\m=16 - i/\e.get 0= .ptr (.box sb) 0/\e.get 1=x/\e.get 4= .ptr (.box h.boxes.length) 0/\e.get 14= .v (.int .i64 i)/\e.defers=[]/\H.boxes[h.boxes.length]?=some (ek (wl b i))/\H.boxes[sb]?=some (ek s)/\Mut sb h.tn h H) ?_ 16 _ _ ?_
 rotate_left 1
 ·refine⟨0,Nat.zero_le _,rfl,?_,?_,?_,?_,?_,?_,aj hsb,(Mut.refl _ _ _).push _⟩
  iterate 5 (first|assumption| (exact gR))
  rw[kz.out];exact ak _ _
 clear z242 kz
 rintro m e H ⟨i,hi,rfl,g0,g1,g4,g14,hd,hw,hsb2,hM⟩
 have kM:=ah.mk hM
 have hHl:=hM.len
 clear hM
 by_cases hc:i=16
 rotate_left 1
 ·refine gI fun Q=>?_
  have hlt:i<16:=by omega
  have hx2:=kX.out H kM.out
  obtain⟨y,y1,y2⟩:=hx2.slice (t:=28) (lo:=some (.v (.int .i64 ((4 * i:Nat):Int)))) (hi:=none) (l:=4 * i) (m:=b.length) (by decide) Tryz.underlying28 sz5 (.inl ⟨rfl,by rw[List.length_map]⟩) (.inr ⟨.i64,rfl⟩) (by omega)
  have y3:b9 1 H y (u8s (b.drop (4 * i))):=by
   have e:(List.take b.length (u8s b)).drop (4 * i)=u8s (b.drop (4 * i)):=by
    rw[List.take_of_length_le (by rw[List.length_map];exact Nat.le_refl _),<-List.map_drop]
   rw[<-e];exact y2
  have cw:=Mr _ y H y3 (by rw[List.length_drop];omega)
  rw[Ds] at cw
  have e4:IntKind.i64.wrap (4 * ((i:Nat):Int))=((4 * i:Nat):Int):=by rw[bT (by omega) (by omega)];omega
  have st:=fun z=>ON (x:=z) hw (n:=i) (by rw[sI (by omega)];omega)
  have hst:=fun z hz=>Jk (b:=b) (i:=i) (x:=z) (by omega) hz
  have hst2:=hst (rz b (4 * i)) (by rw[if_pos hlt])
  have kst:=ah.mk hst2
  have hwl:=(List.getElem?_eq_some_iff.1 hw).1
  have ks:=ah.mk hsb2
  clear hst hst2 hx2 y2 y3 hw hsb2 hsb
  have ix:=vk (b:=h.boxes.length) (n:=i) (k:= .i64) (by omega)
  repeat' (first|simp(maxSteps:=999999) (disch:=first|exact dZ|fail) only[gW,reduceIte,Nat.reduceEqDiff,beq_self_eq_true,lH, *] | (refine dX ?_ ?_<;>(intro _;try omega)))
  refine⟨16 - (i+1),by omega,i+1,by omega,rfl,trivial,trivial,trivial,rfl,trivial,?_,?_,kM.out.bZ (Nat.le_refl _) _⟩
  ·rw[kst.out]
   exact aS hwl
  ·rw[av (by omega)];exact ks.out
 subst hc
 have kw:=ah.mk hw
 have ks:=ah.mk hsb2
 clear hw hsb2 hsb
 repeat' (first|simp(maxSteps:=999999) (disch:=first|exact dZ|fail) only[gW,reduceIte,Nat.reduceEqDiff,beq_self_eq_true,lH, *] | (refine dX ?_ ?_<;>(intro _;try omega)))
 refine aD (fun m e H=>∃i:Nat,16<=i/\i<=64/\m=64 - i/\e.get 0= .ptr (.box sb) 0/\e.get 4= .ptr (.box h.boxes.length) 0/\e.get 6= .v (.int .i64 i)/\e.defers=[]/\H.boxes[h.boxes.length]?=some (ek (wl b i))/\H.boxes[sb]?=some (ek s)/\Mut sb h.tn h H) ?_ 48 _ _ ?_
 rotate_left 1
 ·refine⟨16,by decide,by decide,rfl,?_,?_,?_,?_,kw.out,ks.out,kM.out⟩<;>(first|assumption| (exact gR))
 clear kw ks kM g0 g1 g4 g14 hd hHl hi
 rintro m e H ⟨i,hi16,hi,rfl,g0,g4,g6,hd,hw,hsb2,hM⟩
 have kM:=ah.mk hM
 have hHl:=hM.len
 clear hM
 by_cases hc:i=64
 rotate_left 1
 ·refine gI fun Q=>?_
  have l0:=Dr hw (n:=i - 16) (by rw[sI hi];omega)
  have l1:=Dr hw (n:=i - 15) (by rw[sI hi];omega)
  have l2:=Dr hw (n:=i - 7) (by rw[sI hi];omega)
  have l3:=Dr hw (n:=i - 2) (by rw[sI hi];omega)
  rw[QC (by omega)] at l0 l1 l2 l3
  have i0:=vk (b:=h.boxes.length) (n:=i - 16) (k:= .i64) (by omega)
  have i1:=vk (b:=h.boxes.length) (n:=i - 15) (k:= .i64) (by omega)
  have i2:=vk (b:=h.boxes.length) (n:=i - 7) (k:= .i64) (by omega)
  have i3:=vk (b:=h.boxes.length) (n:=i - 2) (k:= .i64) (by omega)
  have i4:=vk (b:=h.boxes.length) (n:=i) (k:= .i64) (by omega)
  have e0:IntKind.i64.wrap (((i:Nat):Int) - 16)=((i - 16:Nat):Int):=by rw[bT (by omega) (by omega)];omega
  have e1:IntKind.i64.wrap (((i:Nat):Int) - 15)=((i - 15:Nat):Int):=by rw[bT (by omega) (by omega)];omega
  have e2:IntKind.i64.wrap (((i:Nat):Int) - 7)=((i - 7:Nat):Int):=by rw[bT (by omega) (by omega)];omega
  have e3:IntKind.i64.wrap (((i:Nat):Int) - 2)=((i - 2:Nat):Int):=by rw[bT (by omega) (by omega)];omega
  have st:=fun z=>ON (x:=z) hw (n:=i) (by rw[sI hi];omega)
  have hst2:=Jk (b:=b) (i:=i) (x:=En (eP b i) i) (by omega) (by rw[if_neg (by omega)])
  unfold En at hst2
  have kst:=ah.mk hst2
  have r7:=fun H=>SM (wAt (eP b i) (i - 15)) H
  have r18:=fun H=>Qw (wAt (eP b i) (i - 15)) H
  have r17:=fun H=>Qv (wAt (eP b i) (i - 2)) H
  have r19:=fun H=>Qx (wAt (eP b i) (i - 2)) H
  have kw:=ah.mk hw
  have ks:=ah.mk hsb2
  clear hst2 hw hsb2
  repeat' (first|simp(maxSteps:=999999) (disch:=first|exact dZ|fail) only[gW,reduceIte,Nat.reduceEqDiff,beq_self_eq_true,lH,jP,jQ,jX,iM, *] | (refine dX ?_ ?_<;>(intro _;try omega)))
  refine aP kZq ?_
  repeat' (first|simp(maxSteps:=999999) (disch:=first|exact dZ|fail) only[gW,reduceIte,Nat.reduceEqDiff,beq_self_eq_true,lH,jP,jQ,jX,iM, *] | (refine dX ?_ ?_<;>(intro _;try omega)))
  refine mj [6,8,20,22] [] kZq ?_ (fun p hp=>nomatch hp) ?_
  ·intro k hk
   simp only[List.mem_cons,List.not_mem_nil,or_false] at hk
   rcases hk with rfl|rfl|rfl|rfl
   ·refine o9 (x:=w32 (NT.ror (wAt (eP b i) (i - 15)) 7)) rfl rfl ?_ ?_
    ·simp only[List.take_succ_cons,List.take_zero]
     repeat' (first|simp(maxSteps:=999999) (disch:=first|exact dZ|fail) only[gW,reduceIte,Nat.reduceEqDiff,beq_self_eq_true, *] | (refine dX ?_ ?_<;>(intro _;try omega)))
     exact⟨by trivial,fun _=>by trivial⟩
    ·repeat' (first|simp(maxSteps:=999999) (disch:=first|exact dZ|fail) only[gW,reduceIte,Nat.reduceEqDiff,beq_self_eq_true,jP,jQ,jX,iM, *] | (refine dX ?_ ?_<;>(intro _;try omega)))
   ·refine o9 (x:=w32 (NT.ror (wAt (eP b i) (i - 15)) 18)) rfl rfl ?_ ?_
    ·simp only[List.take_succ_cons,List.take_zero]
     repeat' (first|simp(maxSteps:=999999) (disch:=first|exact dZ|fail) only[gW,reduceIte,Nat.reduceEqDiff,beq_self_eq_true, *] | (refine dX ?_ ?_<;>(intro _;try omega)))
     exact⟨by trivial,fun _=>by trivial⟩
    ·repeat' (first|simp(maxSteps:=999999) (disch:=first|exact dZ|fail) only[gW,reduceIte,Nat.reduceEqDiff,beq_self_eq_true,jP,jQ,jX,iM, *] | (refine dX ?_ ?_<;>(intro _;try omega)))
   ·refine o9 (x:=w32 (NT.ror (wAt (eP b i) (i - 2)) 17)) rfl rfl ?_ ?_
    ·simp only[List.take_succ_cons,List.take_zero]
     repeat' (first|simp(maxSteps:=999999) (disch:=first|exact dZ|fail) only[gW,reduceIte,Nat.reduceEqDiff,beq_self_eq_true,jP,jQ,jX,iM, *] | (refine dX ?_ ?_<;>(intro _;try omega)))
     exact⟨by trivial,fun _=>by trivial⟩
    ·repeat' (first|simp(maxSteps:=999999) (disch:=first|exact dZ|fail) only[gW,reduceIte,Nat.reduceEqDiff,beq_self_eq_true,jP,jQ,jX,iM, *] | (refine dX ?_ ?_<;>(intro _;try omega)))
   ·refine o9 (x:=w32 (NT.ror (wAt (eP b i) (i - 2)) 19)) rfl rfl ?_ ?_
    ·simp only[List.take_succ_cons,List.take_zero]
     repeat' (first|simp(maxSteps:=999999) (disch:=first|exact dZ|fail) only[gW,reduceIte,Nat.reduceEqDiff,beq_self_eq_true,jP,jQ,jX,iM, *] | (refine dX ?_ ?_<;>(intro _;try omega)))
     exact⟨by trivial,fun _=>by trivial⟩
    ·repeat' (first|simp(maxSteps:=999999) (disch:=first|exact dZ|fail) only[gW,reduceIte,Nat.reduceEqDiff,beq_self_eq_true,jP,jQ,jX,iM, *] | (refine dX ?_ ?_<;>(intro _;try omega)))
  repeat' (first|simp(maxSteps:=999999) (disch:=first|exact dZ|fail) only[gW,reduceIte,Nat.reduceEqDiff,beq_self_eq_true,lH,jP,jQ,jX,iM, *] | (refine dX ?_ ?_<;>(intro _;try omega)))
  refine⟨64 - (i+1),by omega,i+1,by omega,by omega,rfl,trivial,trivial,rfl,trivial,?_,?_,kM.out.bZ (Nat.le_refl _) _⟩
  ·rw[kst.out]
   exact aS (List.getElem?_eq_some_iff.1 kw.out).1
  ·rw[av (by omega)];exact ks.out
 subst hc
 rw[OO] at hw
 have a230:=Ev;have s230:=xv
 have lds:ai Tryz.prog Gt H 230 (.ptr (.box sb) 0)=some (.agg (ek s)):=by
  have h8:(ek s).length=8:=by rw[List.length_map];exact hs
  rw[cP Ev xv hsb2 (by rw[h8];exact Nat.le_refl _),List.drop_zero,List.take_of_length_le (by rw[h8];exact Nat.le_refl _)]
 have cs8:(AV.agg (ek s)).aC=some (ek s):=zh hs
 have zz:(ej Tryz.prog 230).bind AV.aC=some (ek (List.replicate 8 0#32)):=by rw[xw];exact Nu
 have spz:∀H:ae,aA Tryz.prog (H.push (ek (List.replicate 8 0#32))) 230 (.ptr (.box H.boxes.length) 0) (.agg (ek s))=some (H.push (ek s)):=fun H=>cQ (zh hs) xv (by rw[List.length_map];exact hs) (by rw[List.length_map];rfl)
 have hwl:=(List.getElem?_eq_some_iff.1 hw).1
 have kw:=ah.mk hw
 have ks:=ah.mk hsb2
 clear hw hsb2
 have hM:=kM.out
 repeat' (first|simp(maxSteps:=999999) (disch:=first|exact dZ|fail) only[gW,reduceIte,Nat.reduceEqDiff,beq_self_eq_true,lH, *] | (refine dX ?_ ?_<;>(intro _;try omega)))
 refine aD (fun m e H2=>∃i:Nat,i<=64/\m=64 - i/\e.get 0= .ptr (.box sb) 0/\e.get 4= .ptr (.box h.boxes.length) 0/\e.get 9= .ptr (.box H.boxes.length) 0/\e.get 69= .v (.int .i64 i)/\e.defers=[]/\H2.boxes[h.boxes.length]?=some (ek (eP b 64))/\H2.boxes[sb]?=some (ek s)/\H2.boxes[H.boxes.length]?=some (ek (vF s b i))/\Mut sb h.tn h H2) ?_ 64 _ _ ?_
 rotate_left 1
 ·refine⟨0,by decide,rfl,?_,?_,?_,?_,?_,aj kw.out,aj ks.out,ak _ _,kM.out.push _⟩<;>(first|assumption| (exact gR))
 clear kw ks kM g0 g4 g6 hd lds cs8 zz spz hi hi16 hM
 have hHL:h.boxes.length<H.boxes.length:=hwl
 generalize hvb:H.boxes.length=vb at *
 clear hvb hwl hHl
 rintro m e H ⟨i,hi,rfl,g0,g4,g9,g69,hd,hw,hsb2,hv,hM⟩
 have kM:=ah.mk hM
 have hHl:=hM.len
 clear hM
 by_cases hc:i=64
 rotate_left 1
 ·refine gI fun Q=>?_
  have hlt:i<64:=by omega
  have lw:=Dr hw (n:=i) (by rw[mQ];exact hlt)
  have lk:=fun H=>QB (H:=H) hlt
  have iw:=vk (b:=h.boxes.length) (n:=i) (k:= .i64) hlt
  have ik:=OM (g:=1) (n:=i) (k:= .i64) hlt
  have kR:=ah.mk (Ew s b i)
  obtain⟨v0,v1,v2,v3,v4,v5,v6,v7,hvv⟩:=eight (Dt b hs i)
  have kE:=ah.mk (Gg (eP b 64) _ i _ _ _ _ _ _ _ _ hvv)
  rw[hvv] at hv
  have r1:=fun H=>Jh v4 H
  have r2:=fun H=>Ji v0 H
  have hv':H.boxes[vb]?=some [w32 v0,w32 v1,w32 v2,w32 v3,w32 v4,w32 v5,w32 v6,w32 v7]:=hv
  have kw:=ah.mk hw
  have ks:=ah.mk hsb2
  clear hw hsb2 hv hvv
  have j0:ay Tryz.prog 230 (.ptr (.box vb) 0) (.v (.int .i64 0))=some (.ptr (.box vb) 0):=rG (n:=0) (by decide)
  have j1:ay Tryz.prog 230 (.ptr (.box vb) 0) (.v (.int .i64 1))=some (.ptr (.box vb) 1):=rG (n:=1) (by decide)
  have j2:ay Tryz.prog 230 (.ptr (.box vb) 0) (.v (.int .i64 2))=some (.ptr (.box vb) 2):=rG (n:=2) (by decide)
  have j4:ay Tryz.prog 230 (.ptr (.box vb) 0) (.v (.int .i64 4))=some (.ptr (.box vb) 4):=rG (n:=4) (by decide)
  have j5:ay Tryz.prog 230 (.ptr (.box vb) 0) (.v (.int .i64 5))=some (.ptr (.box vb) 5):=rG (n:=5) (by decide)
  have j6:ay Tryz.prog 230 (.ptr (.box vb) 0) (.v (.int .i64 6))=some (.ptr (.box vb) 6):=rG (n:=6) (by decide)
  have j7:ay Tryz.prog 230 (.ptr (.box vb) 0) (.v (.int .i64 7))=some (.ptr (.box vb) 7):=rG (n:=7) (by decide)
  have hvl:=(List.getElem?_eq_some_iff.1 hv').1
  have a42:=Jj;have s42:=zf
  have cp:=QD hv'
  have sla:=OP (b:=vb);have slb:=OQ (b:=vb)
  repeat' (first|simp(maxSteps:=999999) (disch:=first|exact dZ|fail) only[gW,reduceIte,Nat.reduceEqDiff,beq_self_eq_true,lH,jP,jQ,AO,pM,List.drop_succ_cons,List.drop_zero,List.head?_cons, *] | (refine dX ?_ ?_<;>(intro _;try omega)))
  refine mj [4] [] kZq ?_ (fun p hp=>nomatch hp) ?_
  ·intro k hk
   simp only[List.mem_singleton] at hk
   subst hk
   refine o9 (x:=w32 (NT.ror v4 6^^^NT.ror v4 11^^^NT.ror v4 25)) rfl rfl ?_ ?_
   ·simp only[List.take_succ_cons,List.take_zero]
    repeat' (first|simp(maxSteps:=999999) (disch:=first|exact dZ|fail) only[gW,reduceIte,Nat.reduceEqDiff,beq_self_eq_true,List.drop_succ_cons,List.drop_zero,List.head?_cons, *] | (refine dX ?_ ?_<;>(intro _;try omega)))
    exact⟨by trivial,fun _=>by trivial⟩
   ·repeat' (first|simp(maxSteps:=999999) (disch:=first|exact dZ|fail) only[gW,reduceIte,Nat.reduceEqDiff,beq_self_eq_true,jP,jQ,AO,pM,List.drop_succ_cons,List.drop_zero,List.head?_cons, *] | (refine dX ?_ ?_<;>(intro _;try omega)))
  repeat' (first|simp(maxSteps:=999999) (disch:=first|exact dZ|fail) only[gW,reduceIte,Nat.reduceEqDiff,beq_self_eq_true,lH,jP,jQ,AO,pM,List.drop_succ_cons,List.drop_zero,List.head?_cons, *] | (refine dX ?_ ?_<;>(intro _;try omega)))
  refine mj [2] [] kZq ?_ (fun p hp=>nomatch hp) ?_
  ·intro k hk
   simp only[List.mem_singleton] at hk
   subst hk
   refine o9 (x:=w32 (NT.ror v0 2^^^NT.ror v0 13^^^NT.ror v0 22)) rfl rfl ?_ ?_
   ·simp only[List.take_succ_cons,List.take_zero]
    repeat' (first|simp(maxSteps:=999999) (disch:=first|exact dZ|fail) only[gW,reduceIte,Nat.reduceEqDiff,beq_self_eq_true,List.drop_succ_cons,List.drop_zero,List.head?_cons, *] | (refine dX ?_ ?_<;>(intro _;try omega)))
    exact⟨by trivial,fun _=>by trivial⟩
   ·repeat' (first|simp(maxSteps:=999999) (disch:=first|exact dZ|fail) only[gW,reduceIte,Nat.reduceEqDiff,beq_self_eq_true,jP,jQ,AO,pM,List.drop_succ_cons,List.drop_zero,List.head?_cons, *] | (refine dX ?_ ?_<;>(intro _;try omega)))
  repeat' (first|simp(maxSteps:=999999) (disch:=first|exact dZ|fail) only[gW,reduceIte,Nat.reduceEqDiff,beq_self_eq_true,lH,jP,jQ,AO,pM,List.drop_succ_cons,List.drop_zero,List.head?_cons, *] | (refine dX ?_ ?_<;>(intro _;try omega)))
  refine aP kZq ?_
  clear hv'
  repeat' (first|simp(maxSteps:=999999) (disch:=first|exact dZ|fail) only[gW,reduceIte,Nat.reduceEqDiff,beq_self_eq_true,lH,ldp,stp,uj,jQ,List.drop_succ_cons,List.drop_zero,List.head?_cons,List.set_cons_zero,List.set_cons_succ, *] | (refine dX ?_ ?_<;>(intro _;try omega)))
  refine⟨64 - (i+1),by omega,i+1,by omega,rfl,trivial,trivial,trivial,rfl,trivial,?_,?_,?_,kM.out.bZ (by omega) _⟩
  ·rw[av (by omega)];exact kw.out
  ·rw[av (by omega)];exact ks.out
  ·rw[aS hvl,kR.out,kE.out];rfl
 subst hc
 have hblk:qy s b=List.zipWith (·+·) s (vF s b 64):=rfl
 rw[hblk]
 have h8:=Dt b hs 64
 generalize vF s b 64=v at *
 have hvl:=(List.getElem?_eq_some_iff.1 hv).1
 have ks:=ah.mk hsb2
 have kv:=ah.mk hv
 clear hw hsb2 hv hblk
 repeat' (first|simp(maxSteps:=999999) (disch:=first|exact dZ|fail) only[gW,reduceIte,Nat.reduceEqDiff,beq_self_eq_true,lH, *] | (refine dX ?_ ?_<;>(intro _;try omega)))
 refine aD (fun m e H2=>∃i:Nat,i<=8/\m=8 - i/\e.get 0= .ptr (.box sb) 0/\e.get 9= .ptr (.box vb) 0/\e.get 129= .v (.int .i64 i)/\e.defers=[]/\H2.boxes[sb]?=some (ek (rH s v i))/\H2.boxes[vb]?=some (ek v)/\Mut sb h.tn h H2) ?_ 8 _ _ ?_
 rotate_left 1
 ·refine⟨0,by decide,rfl,?_,?_,?_,?_,ks.out,kv.out,kM.out⟩<;>(first|assumption| (exact gR))
 clear ks kv kM g0 g4 g9 g69 hd hHl hi
 rintro m e H ⟨i,hi,rfl,g0,g9,g129,hd,hsb2,hv,hM⟩
 have kM:=ah.mk hM
 clear hM
 by_cases hc:i=8
 rotate_left 1
 ·refine gI fun Q=>?_
  have hlt:i<8:=by omega
  have hz:=Gh hs h8 hi
  have l1:=Dr hsb2 (n:=i) (by omega)
  have l2:=Dr hv (n:=i) (by omega)
  rw[Jl hs h8 hlt] at l1
  have j1:=rG (b:=sb) (n:=i) (k:= .i64) hlt
  have j2:=rG (b:=vb) (n:=i) (k:= .i64) hlt
  have st:=ON (x:=wAt s i+wAt v i) hsb2 (n:=i) (by omega)
  rw[Gi hs h8 hlt] at st
  have hsl:=(List.getElem?_eq_some_iff.1 hsb2).1
  have kv:=ah.mk hv
  clear hsb2 hv
  repeat' (first|simp(maxSteps:=999999) (disch:=first|exact dZ|fail) only[gW,reduceIte,Nat.reduceEqDiff,beq_self_eq_true,lH, *] | (refine dX ?_ ?_<;>(intro _;try omega)))
  refine aP kZq ?_
  repeat' (first|simp(maxSteps:=999999) (disch:=first|exact dZ|fail) only[gW,reduceIte,Nat.reduceEqDiff,beq_self_eq_true,lH,jQ, *] | (refine dX ?_ ?_<;>(intro _;try omega)))
  refine⟨8 - (i+1),by omega,i+1,by omega,rfl,trivial,trivial,rfl,trivial,aS hsl,?_,kM.out.trans (.put _ _ _ _)⟩
  rw[av (by omega)];exact kv.out
 subst hc
 rw[Gj hs h8] at hsb2
 have ks:=ah.mk hsb2
 clear hsb2 hv
 repeat' (first|simp(maxSteps:=999999) (disch:=first|exact dZ|fail) only[gW,reduceIte,Nat.reduceEqDiff,beq_self_eq_true,lH, *] | (refine dX ?_ ?_<;>(intro _;try omega)))
 exact⟨_,rfl,ks.out,kM.out⟩
theorem Jm:Tryz.f205.results.toList=[]:=kZq
theorem Jn(n:Int)(h:ae):fm Tryz.prog h 42 216 (.v (.int .u32 n))=some (.v (.int .u64 (IntKind.u64.wrap n)),h):=kZq
theorem jY(n:Int)(h:ae):fm Tryz.prog h 3 216 (.v (.int .i64 n))=some (.v (.int .u64 (IntKind.u64.wrap n)),h):=kZq
theorem zj(n:Int)(h:ae):fm Tryz.prog h 216 5 (.v (.int .u64 n))=some (.v (.int .u8 (IntKind.u8.wrap n)),h):=kZq
def u8v(b:UInt8):AV:= .v (.int .u8 b.toNat)
abbrev u8c(l:List UInt8):List AV:=l.map u8v
def beB(n k:Nat):List UInt8:=(List.range k).map fun i=>UInt8.ofNat (n/256^(k - 1 - i))
theorem zk(n k:Nat):(beB n k).length=k:=by simp[beB]
def gj(cs:List AV)(off len n i:Nat):List AV:=cs.take (off+len - i)++u8c ((beB n len).drop (len - i))++cs.drop (off+len)
theorem wF{cs:List AV}{off len n:Nat}:gj cs off len n 0=cs:=by
 unfold gj
 rw[Nat.sub_zero,Nat.sub_zero,List.drop_of_length_le (by rw[zk];exact Nat.le_refl _)]
 show List.take (off+len) cs++[]++_=_
 rw[List.append_nil,List.take_append_drop]
theorem zl{cs:List AV}{off len n i:Nat}(hi:i<=len)(hl:off+len<=cs.length):(gj cs off len n i).length=cs.length:=by
 unfold gj
 simp only[List.length_append,List.length_take,List.length_map,List.length_drop,zk]
 omega
theorem zn{cs:List AV}{off len n i:Nat}(hi:i<len)(hl:off+len<=cs.length):(gj cs off len n i).set (off+(len - 1 - i)) (u8v (UInt8.ofNat (n/256^i)))=gj cs off len n (i+1):=by
 unfold gj
 have e1:off+len - i=(off+(len - 1 - i))+1:=by omega
 have e2:off+len - (i+1)=off+(len - 1 - i):=by omega
 have hlt:off+(len - 1 - i)<cs.length:=by omega
 have e3:(beB n len).drop (len - (i+1))=UInt8.ofNat (n/256^i)::(beB n len).drop (len - i):=by
  rw[List.drop_eq_getElem_cons (by rw[zk];omega)]
  congr 1
  ·unfold beB
   rw[List.getElem_map,List.getElem_range]
   congr 3
   omega
  ·congr 1;omega
 rw[e1,e2,e3,List.take_succ_eq_append_getElem hlt]
 generalize he:cs[off+(len - 1 - i)]=z
 rw[List.append_assoc,List.append_assoc,List.set_append_right _ _ (by rw[List.length_take];omega),List.length_take,show off+(len - 1 - i) - min (off+(len - 1 - i)) cs.length=0 by omega]
 simp
def qA(cs:List AV)(off len n:Nat):List AV:=cs.take off++u8c (beB n len)++cs.drop (off+len)
theorem zo{cs:List AV}{off len n:Nat}:gj cs off len n len=qA cs off len n:=by
 unfold gj qA
 rw[Nat.sub_self,List.drop_zero,Nat.add_sub_cancel]
theorem QE{b off len cap n:Nat}{k:IntKind}(hn:n<len):ay Tryz.prog 28 (.arr b off len cap) (.v (.int k (n:Nat)))=some (.ptr (.box b) (off+n)):=by
 rw[mE Tryz.underlying28 sz5 (by omega) (by omega),Int.toNat_natCast,Nat.mul_one]
theorem OR{H:ae}{b k:Nat}{cs:List AV}{v:UInt8}(hb:H.boxes[b]?=some cs)(hk:k<cs.length):aA Tryz.prog H 5 (.ptr (.box b) k) (u8v v)=some (H.put b (cs.set k (u8v v))):=by
 rw[aW (xs:=[u8v v]) rfl sz5 hb rfl hk]
 congr 2
 unfold bI
 rw[List.set_eq_take_append_cons_drop,if_pos (show k<cs.length from hk)]
 simp
theorem OS(m:Nat):AV.v (.int .u8 (IntKind.u8.wrap ((m:Nat):Int)))=u8v (UInt8.ofNat m):=by
 unfold u8v
 rw[show(UInt8.ofNat m).toNat=m%256 from UInt8.toNat_ofNat']
 unfold IntKind.wrap
 simp[IntKind.signed,IntKind.bits]
theorem Du(b off len cap n:Nat)(cs:List AV)(h:ae)(hl:len<=8)(hn:n<18446744073709551616)(hb:h.boxes[b]?=some cs)(hc:off+len<=cs.length):
 W.call 205 [.arr b off len cap,.v (.int .u64 (n:Nat))] h=some (.ret (.tuple []),h.put b (qA cs off len n)):=by
 have u28:=Tryz.underlying28
 have hblt:=(List.getElem?_eq_some_iff.1 hb).1
 have k0:=ah.mk (ec hb)
 clear hb
 refine ar rfl Tryz.func205 rfl ?_
 repeat' (first|simp(maxSteps:=999999) (disch:=first|exact dZ|fail) only[gW,reduceIte,Nat.reduceEqDiff,beq_self_eq_true,Jm, *] | (refine dX ?_ ?_<;>(intro _;try omega)) |refine aP kZq ?_)
 refine aD (fun m e H=>∃i:Nat,i<=len/\m=len - i/\e.get 0= .arr b off len cap/\e.get 1= .v (.int .u64 (n:Nat))/\e.get 6= .v (.int .i64 (len:Nat))/\e.get 7= .v (.int .i64 i)/\e.defers=[]/\H=h.put b (gj cs off len n i)) ?_ len _ _ ?_
 rotate_left 1
 ·refine⟨0,Nat.zero_le _,rfl,?_,?_,?_,?_,?_,by rw[wF];exact k0.out.symm⟩<;>(first|assumption| (exact gR))
 rintro m e H ⟨i,hi,rfl,g0,g1,g6,g7,hd,rfl⟩
 by_cases hc2:i=len
 ·subst hc2
  rw[zo]
  repeat' (first|simp(maxSteps:=999999) (disch:=first|exact dZ|fail) only[gW,reduceIte,Nat.reduceEqDiff,beq_self_eq_true,Jm, *] | (refine dX ?_ ?_<;>(intro _;try omega)) |refine aP kZq ?_)
 ·refine gI fun Q=>?_
  have hlt:i<len:=by omega
  have e1:IntKind.i64.wrap (8 * ((i:Nat):Int))=((8 * i:Nat):Int):=by rw[bT (by omega) (by omega)];omega
  have e2:IntKind.i64.wrap (((len:Nat):Int) - 1)=((len - 1:Nat):Int):=by rw[bT (by omega) (by omega)];omega
  have e3:IntKind.i64.wrap (((len - 1:Nat):Int) - ((i:Nat):Int))=((len - 1 - i:Nat):Int):=by rw[bT (by omega) (by omega)];omega
  have sh:∀(t:TypeId) (x y:Operand),bB Tryz.prog .shr t x y (.v (.int .u64 (n:Nat))) (.v (.int .i64 ((8 * i:Nat):Int)))=some (.v (.int .u64 ((n/256^i:Nat):Int))):=fun t x y=>by
   rw[nr (by omega),Int.toNat_natCast,show IntKind.u64.bits=64 from rfl,Nat.min_eq_left (by omega)]
   congr 3
   rw[Int.fdiv_eq_ediv_of_nonneg _ (by
    have:(0:Int)<2^(8 * i):=Int.pow_pos (by decide)
    omega)]
   have e8:(2:Int)^(8 * i)=((256^i:Nat):Int):=by rw[Int.pow_mul];simp
   rw[e8];rfl
  have uv:=OS (n/256^i)
  have ix:=QE (b:=b) (off:=off) (cap:=cap) (k:= .i64) (show len - 1 - i<len by omega)
  have st:=OR (H:=h.put b (gj cs off len n i)) (v:=UInt8.ofNat (n/256^i)) (k:=off+(len - 1 - i)) (aS hblt) (by rw[zl (by omega) hc];omega)
  rw[zn hlt hc,uj] at st
  repeat' (first|simp(maxSteps:=999999) (disch:=first|exact dZ|fail) only[gW,reduceIte,Nat.reduceEqDiff,beq_self_eq_true,Jm,zj, *] | (refine dX ?_ ?_<;>(intro _;try omega)) |refine aP kZq ?_)
  refine⟨len - (i+1),by omega,i+1,by omega,rfl,trivial,trivial,trivial,rfl,trivial,rfl⟩
theorem jZ:∀(i:Nat) (s:List U32) (b:List UInt8),de (i+1) s b=qy (de i s b) ((b.drop (64 * i)).take 64)
 |0,s,b=>rfl
 |i+1,s,b=>by
  rw[de,jZ i,de,List.drop_drop]
  congr 3
  omega
theorem tz:∀(i j:Nat) (s:List U32) (b:List UInt8),de (i+j) s b=de j (de i s b) (b.drop (64 * i))
 |0,j,s,b=>by rw[Nat.zero_add];rfl
 |i+1,j,s,b=>by
  rw[show i+1+j=(i+j)+1 by omega,de,tz i j,de,List.drop_drop]
  congr 2
  omega
theorem oN:∀(i:Nat) (s:List U32) (a b:List UInt8),64 * i<=a.length->de i s (a++b)=de i s a
 |0,_,_,_,_=>rfl
 |i+1,s,a,b,h=>by
  rw[de,de,List.take_append_of_le_length (by omega),List.drop_append_of_le_length (by omega)]
  exact oN i _ _ b (by rw[List.length_drop];omega)
theorem Dv{s:List U32}{b:List UInt8}(hs:s.length=8):(qy s b).length=8:=by
 have:=Dt b hs 64
 unfold vF at this
 unfold qy
 simp[hs,this]
theorem fC:∀(i:Nat) (s:List U32) (b:List UInt8),s.length=8->(de i s b).length=8
 |0,_,_,h=>h
 |i+1,s,b,h=>fC i _ _ (Dv h)
def nD(r:Nat):Nat:=if r>55 then 128 else 64
def mn(rest:List UInt8)(n:Nat):List UInt8:=rest++0x80::List.replicate (nD rest.length - 9 - rest.length) 0++Ga n
theorem A8{rest:List UInt8}{n:Nat}(hr:rest.length<64):(mn rest n).length=nD rest.length:=by
 unfold mn nD
 simp only[List.length_append,List.length_cons,List.length_replicate]
 have:(Ga n).length=8:=by simp[Ga]
 rw[this]
 split<;>omega
theorem Mt(b:List UInt8):Ml b=b.take (64 * (b.length/64))++mn (b.drop (64 * (b.length/64))) b.length:=by
 unfold Ml mn
 have e:Di b.length=nD (b.drop (64 * (b.length/64))).length - 9 - (b.drop (64 * (b.length/64))).length:=by
  unfold Di nD
  rw[List.length_drop]
  split<;>omega
 rw[e,<-List.append_assoc,<-List.append_assoc,List.take_append_drop]
theorem OT(b:List UInt8):jA b=nZ (de (nD (b.drop (64 * (b.length/64))).length/64) (de (b.length/64) NT.start b) (mn (b.drop (64 * (b.length/64))) b.length)):=by
 unfold jA
 have hr:(b.drop (64 * (b.length/64))).length<64:=by rw[List.length_drop];omega
 have hlen:(b.take (64 * (b.length/64))).length=64 * (b.length/64):=by rw[List.length_take];omega
 rw[Mt,List.length_append,A8 hr,hlen,show(64 * (b.length/64)+nD (b.drop (64 * (b.length/64))).length)/64=b.length/64+nD (b.drop (64 * (b.length/64))).length/64 by
  rw[Nat.mul_add_div (by decide)]]
 have h2:de (b.length/64) NT.start (b.take (64 * (b.length/64)))=de (b.length/64) NT.start b:=by
  have:=oN (b.length/64) NT.start (b.take (64 * (b.length/64))) (b.drop (64 * (b.length/64))) (by rw[hlen];exact Nat.le_refl _)
  rw[List.take_append_drop] at this
  exact this.symm
 have h1:(b.take (64 * (b.length/64))).drop (64 * (b.length/64))=[]:=List.drop_of_length_le (by rw[hlen];exact Nat.le_refl _)
 rw[tz,List.drop_append_of_le_length (by rw[hlen];exact Nat.le_refl _),h1,List.nil_append]
 rw[oN _ _ _ _ (by rw[hlen];exact Nat.le_refl _),h2]
theorem Mu(n:Nat):beB (n * 8) 8=Ga n:=by
 unfold beB Ga
 apply List.map_congr_left
 intro i hi
 rw[List.mem_range] at hi
 congr 2
 rw[show(256:Nat)=2^8 from rfl,<-Nat.pow_mul]
theorem SN(x:U32):beB x.toNat 4=[UInt8.ofNat (x.toNat/16777216),UInt8.ofNat (x.toNat/65536),UInt8.ofNat (x.toNat/256),UInt8.ofNat x.toNat]:=by
 show[UInt8.ofNat (x.toNat/256^3),UInt8.ofNat (x.toNat/256^2),UInt8.ofNat (x.toNat/256^1),UInt8.ofNat (x.toNat/256^0)]=_
 simp
theorem Gk{s:List U32}{i:Nat}{x:U32}(hi:s[i]?=some x):nZ (s.take (i+1))=nZ (s.take i)++beB x.toNat 4:=by
 rw[a9 hi,SN]
 unfold nZ
 rw[List.flatMap_append]
 simp
theorem mR(s:List U32):(nZ s).length=4 * s.length:=by
 unfold nZ
 induction s with
 |nil=>rfl
 |cons a s ih=>rw[List.flatMap_cons,List.length_append,ih];simp;omega
theorem eC(l:List UInt8):(u8c l).length=l.length:=List.length_map _
theorem Gl{rest:List UInt8}{n:Nat}(hr:rest.length<64):
 qA ((u8c rest++(List.replicate 128 (u8v 0)).drop rest.length).set rest.length (u8v 0x80)) (nD rest.length - 8) 8 (n * 8)=u8c (mn rest n)++List.replicate (128 - nD rest.length) (u8v 0):=by
 have hL:nD rest.length=64∨nD rest.length=128:=by unfold nD;split<;>omega
 have hL2:rest.length+9<=nD rest.length:=by unfold nD;split<;>omega
 rw[List.drop_replicate]
 obtain⟨k,hk⟩:∃k,128 - rest.length=k+1:=⟨127 - rest.length,by omega⟩
 rw[hk,List.replicate_succ,List.set_append_right _ _ (by rw[eC];exact Nat.le_refl _),eC,Nat.sub_self,List.set_cons_zero]
 unfold qA mn
 rw[Mu]
 generalize nD rest.length=L at *
 have e1:List.take (L - 8) (u8c rest++u8v 0x80::List.replicate k (u8v 0))=u8c (rest++0x80::List.replicate (L - 9 - rest.length) 0):=by
  rw[List.take_append,eC,List.take_of_length_le (by rw[eC];omega)]
  obtain⟨j,hj⟩:∃j,L - 8 - rest.length=j+1:=⟨L - 9 - rest.length,by omega⟩
  rw[hj,List.take_succ_cons,List.take_replicate,Nat.min_eq_left (by omega)]
  unfold u8c
  rw[List.map_append,List.map_cons,List.map_replicate,show L - 9 - rest.length=j by omega]
 have e2:List.drop (L - 8+8) (u8c rest++u8v 0x80::List.replicate k (u8v 0))=List.replicate (128 - L) (u8v 0):=by
  rw[List.drop_append,eC,List.drop_of_length_le (by rw[eC];omega),List.nil_append]
  obtain⟨j,hj⟩:∃j,L - 8+8 - rest.length=j+1:=⟨L - 1 - rest.length,by omega⟩
  rw[hj,List.drop_succ_cons,List.drop_replicate]
  congr 1;omega
 rw[e1,e2]
 unfold u8c
 rw[<-List.map_append]
theorem nS:Tryz.f181.results.toList=[.cell 2 177]:=kZq
theorem Jo:cZ Tryz.prog 177=some true:=kZq
theorem tA:bF Tryz.prog 177=some 32:=kZq
theorem Jp:(ej Tryz.prog 177).bind AV.aC=some (List.replicate 32 (u8v 0)):=kZq
theorem QF(H:ae):ai Tryz.prog Gt H 229 (.ptr (.dW 0) 0)=some (.agg (ek NT.start)):=kZq
theorem rI(l:List UInt8):(AV.agg (u8c l)).aC=some (u8c l):=by
 have:(u8c l).all AV.bu=true:=by
  rw[List.all_eq_true]
  intro x hx
  obtain⟨b,-,rfl⟩:=List.mem_map.1 hx
  rfl
 unfold AV.aC
 simp[this]
theorem Nv(H:ae):eU Tryz.prog H 28 (.v (.int .i64 64)) (.v (.int .i64 128))=some (.arr H.boxes.length 0 64 128,H.push (List.replicate 128 (u8v 0))):=kZq
theorem rJ(l:List UInt8):(u8s l).flatten=u8c l:=by
 rw[nk];rfl
theorem OU{H:ae}{eb len cap:Nat}{x:AV}{rest:List UInt8}{cs:List AV}(s:b9 1 H x (u8s rest))(hb:H.boxes[eb]?=some cs)(h1:len<=cs.length)(h2:len<=cap)(h3:rest.length<=len):
 oi Tryz.prog H #[28,28] (.arr eb 0 len cap) x=some (.v (.int .i64 (rest.length:Nat)),H.put eb (u8c rest++cs.drop rest.length)):=by
 have hi:∃i,Tryz.prog.info? 5=some i/\i.size=1:=by
  have h42:=sz5
  unfold bF at h42
  cases hq:Tryz.prog.info? 5 with
  |none=>rw[hq] at h42;cases h42
  |some i=>rw[hq] at h42;exact⟨i,rfl,by simpa using h42⟩
 obtain⟨i,q1,q2⟩:=hi
 have hu:((#[28,28]:Array Nat)[0]?).bind Tryz.prog.underlying=some (.slice 5):=kZq
 unfold oi
 rw[hu]
 simp only[q1,q2,s.news,hb]
 rw[if_pos ⟨by omega,h2⟩]
 have hm:Nat.min (u8s rest).length len=rest.length:=by rw[List.length_map];exact Nat.min_eq_left h3
 rw[hm,List.take_of_length_le (by rw[List.length_map];exact Nat.le_refl _),rJ]
 have e:bI cs 0 (u8c rest)=u8c rest++cs.drop rest.length:=by
  unfold bI
  rw[List.take_zero,List.nil_append,Nat.zero_add,eC]
 rw[e]
 rfl
theorem zq{R:ae->Prop}{H0:ae}{x:AV}{l:List UInt8}(hx:∀H,R H->b9 1 H x (u8s l))(h0:R H0)(hl:64<=l.length):
 ∃y z,ck Tryz.prog 28 x none (some (.v (.int .i64 64))) none=some y/\ck Tryz.prog 28 x (some (.v (.int .i64 64))) none none=some z/\
  (∀H,R H->b9 1 H y (u8s (l.take 64)))/\∀H,R H->b9 1 H z (u8s (l.drop 64)):=by
 have A:∀H,R H->∃y,ck Tryz.prog 28 x none (some (.v (.int .i64 64))) none=some y/\b9 1 H y (u8s (l.take 64)):=fun H hH=>by
  obtain⟨y,y1,y2⟩:=(hx H hH).slice (t:=28) (lo:=none) (hi:=some (.v (.int .i64 64))) (l:=0) (m:=64) (by decide) Tryz.underlying28 sz5 (.inr ⟨.i64,rfl,by rw[List.length_map];exact hl⟩) (.inl ⟨rfl,rfl⟩) (by decide)
  rw[List.drop_zero,<-List.map_take] at y2
  exact⟨y,y1,y2⟩
 have B:∀H,R H->∃y,ck Tryz.prog 28 x (some (.v (.int .i64 64))) none none=some y/\b9 1 H y (u8s (l.drop 64)):=fun H hH=>by
  obtain⟨y,y1,y2⟩:=(hx H hH).slice (t:=28) (lo:=some (.v (.int .i64 64))) (hi:=none) (l:=64) (m:=l.length) (by decide) Tryz.underlying28 sz5 (.inl ⟨rfl,by rw[List.length_map]⟩) (.inr ⟨.i64,rfl⟩) hl
  rw[List.take_of_length_le (by rw[List.length_map];exact Nat.le_refl _),<-List.map_drop] at y2
  exact⟨y,y1,y2⟩
 obtain⟨y,y1,-⟩:=A H0 h0
 obtain⟨z,z1,-⟩:=B H0 h0
 refine⟨y,z,y1,z1,fun H hH=>?_,fun H hH=>?_⟩
 ·obtain⟨y',q1,q2⟩:=A H hH
  rw[y1] at q1;cases q1;exact q2
 ·obtain⟨y',q1,q2⟩:=B H hH
  rw[z1] at q1;cases q1;exact q2
theorem Jq{l:List U32}{i:Nat}{k:IntKind}(hl:l.length=8)(hi:i<8):nf Tryz.prog 230 (.agg (ek l)) (.v (.int k (i:Nat)))=some (w32 (wAt l i)):=by
 have hu:=Tryz.underlying230
 unfold nf
 rw[hu]
 simp only[zf]
 rw[if_pos ⟨by omega,by omega⟩]
 unfold uq
 rw[Jj]
 simp only[zf]
 rw[Int.toNat_natCast,Nat.mul_one]
 have hl2:i<l.length:=by omega
 show(ek l)[i]?=_
 rw[List.getElem?_map,wAt,List.getD_eq_getElem?_getD,List.getElem?_eq_getElem hl2]
 rfl
theorem Nw{b i:Nat}(hi:i<8):ck Tryz.prog 177 (.ptr (.box b) 0) (some (.v (.int .i64 ((4 * i:Nat):Int)))) (some (.v (.int .i64 ((4 * i+4:Nat):Int)))) none=some (.arr b (4 * i) 4 (32 - 4 * i)):=by
 have hu:=Tryz.underlying177
 unfold ck
 rw[hu]
 have h1:bX 32 none 32=some 32:=rfl
 have h2:bX 32 (some (.v (.int .i64 ((4 * i+4:Nat):Int)))) 32=some (4 * i+4):=by
  show(if _ then _ else _)=_
  rw[if_pos ⟨by omega,by omega⟩,Int.toNat_natCast]
 have h3:bX (4 * i+4) (some (.v (.int .i64 ((4 * i:Nat):Int)))) 0=some (4 * i):=by
  show(if _ then _ else _)=_
  rw[if_pos ⟨by omega,by omega⟩,Int.toNat_natCast]
 simp only[sz5,h1,h2,h3]
 rw[if_neg (by simp),if_neg (by omega),Nat.zero_add,Nat.mul_one,show 4 * i+4 - 4 * i=4 by omega]
theorem Jr{v:U32}{H:ae}:fm Tryz.prog H 42 216 (w32 v)=some (.v (.int .u64 (v.toNat:Nat)),H):=by
 unfold w32
 rw[Jn]
 congr 4
 unfold IntKind.wrap
 simp[IntKind.signed,IntKind.bits]
 have:=v.isLt
 omega
end Go.Proofs.YtnfciiiohoafaaaGreatDoor
end
