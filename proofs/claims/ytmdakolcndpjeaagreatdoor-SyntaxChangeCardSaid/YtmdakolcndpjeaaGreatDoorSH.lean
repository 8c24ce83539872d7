/-
 Part of the proof: SH.
-/
import Derived.Test.YtmdakolcndpjeaaGreatDoorSG
import Derived.Test.YtmdakolcndpjeaaGreatDoorE4
import Derived.Test.YtmdakolcndpjeaaGreatDoorSD
set_option maxHeartbeats 64000000
set_option maxRecDepth 100000
set_option linter.unusedSimpArgs false
set_option linter.unusedVariables false
set_option linter.constructorNameAsVariable false
section
namespace Go.Proofs.YtmdakolcndpjeaaGreatDoor
open Go.AE Go.Lex Go.Pol Go.Syn
theorem rs77 : Tryz.f77.results.toList = [] := by kernel_rfl
theorem rs78 : Tryz.f78.results.toList = [] := by kernel_rfl
def namesP (m : Nat) (l : List Tk) : PR (List (List UInt8) × List (List UInt8)) := (someP kOffice (declP kOffice) m l).bind fun o r => (someP kKind (declP kKind) m r).bind fun k r => .ok (o, k) r
def rulesP (m : Nat) (l : List Tk) : PR (List Rl × Ex) := (someP kRule (ruleP m) m l).bind fun w r => (wantP [kChange, cEq] r).bind fun _ r => (exprP m r).bind fun x r => (wantT cSemi r).bind fun _ r => .ok (w, x) r
theorem bind_assoc {α β γ : Type} (x : PR α) (f : α → List Tk → PR β) (g : β → List Tk → PR γ) : (x.bind f).bind g = x.bind fun a r => (f a r).bind g := by cases x <;> rfl
theorem polP_split (m : Nat) (l : List Tk) : polP m l = (headP l).bind fun hd r => (namesP m r).bind fun ok r => (rulesP m r).bind fun wx r => .ok ⟨hd.1, ok.2, ok.1, wx.1, wx.2, hd.2⟩ r := by
 unfold polP bodyP namesP rulesP
 simp only [bind_assoc, bind_ok]
def NPost (b n0 : Nat) (n : Int) (p : Po) (t : PT) (h : Heap) (pr : PR (List (List UInt8) × List (List UInt8))) (r : Res) (h' : Heap) : Prop :=
 match pr with
 | .ok x l => ∃ tok sz to so tk sk, r = .ret (.tuple []) ∧ Mut b n0 h h' ∧ Pa b tok sz l n { p with offices := x.1, kinds := x.2 } { t with to := to, so := so, tk := tk, sk := sk } h' ∧ (∀ i : Nat, i < x.1.length → so = 1) ∧ ∀ i : Nat, i < x.2.length → sk = 1
 | .bad l => r = .panic (wrongV (failAt n l)) ∧ Mut b n0 h h'
def UPost (b n0 : Nat) (n : Int) (p : Po) (t : PT) (h : Heap) (pr : PR (List Rl × Ex)) (r : Res) (h' : Heap) : Prop :=
 match pr with
 | .ok x l => ∃ tok sz tr sr rr tke sze rowse, r = .ret (.tuple []) ∧ Mut b n0 h h' ∧ Pa b tok sz l n { p with rules := x.1, change := x.2 } { t with tr := tr, sr := sr, rr := rr, tok := tke, sz := sze, rows := rowse } h' ∧ RRows x.1 rr ∧ (∀ i : Nat, i < x.1.length → sr = 8) ∧ Row x.2 (row5 x.2.kind x.2.n x.2.no x.2.name tke sze rowse)
 | .bad l => r = .panic (wrongV (failAt n l)) ∧ Mut b n0 h h'
section
variable {b : Nat} {tok : Tok} {sz : Nat} {l : List Tk} {n : Int} {p : Po} {t : PT} {h : Heap}
theorem names_ev2 {m : Nat} (n0 : Nat) (P : Pa b tok sz l n p t h) (ho : okHeap h = true) (hn : n0 ≤ h.tn) (hl : l.length < m) : ∃ r h', W.call 77 [.ptr (.box b) 0] h = some (r, h') ∧ NPost b n0 n p t h (namesP m l) r h' := by
 have a22 := ag22; have s22 := sz22
 have nb := P.lt
 have dv1 := declared_ev b kOffice h
 have P0 := (P.push [.ptr (.box b) 0]).push [.v (.string (bs kOffice))]
 have M0 := ((Mut.refl b n0 h).push [.ptr (.box b) 0]).push [.v (.string (bs kOffice))]
 have hc1 : ((h.push [.ptr (.box b) 0]).push [.v (.string (bs kOffice))]).boxes[h.boxes.length]? = some [.ptr (.box b) 0] := push_old (push_last _ _)
 have hc2 : ((h.push [.ptr (.box b) 0]).push [.v (.string (bs kOffice))]).boxes[h.boxes.length + 1]? = some [.v (.string (bs kOffice))] := by have := push_last (h.push [.ptr (.box b) 0]) [.v (.string (bs kOffice))]; rw [push_len] at this; exact this
 obtain ⟨r1, h1, c1, q1⟩ := some_str_ev n0 P0 hc1 hc2 (by omega) (by omega) (M0.ok ho) (Nat.le_trans hn M0.tn) m hl
 simp only [kOffice] at c1 dv1
 have e9 : namesP m l = (someP kOffice (declP kOffice) m l).bind fun o r => (someP kKind (declP kKind) m r).bind fun k r => .ok (o, k) r := rfl
 rw [e9]
 cases w1 : someP kOffice (declP kOffice) m l with
 | bad l1 =>
  rw [w1] at q1
  obtain ⟨rfl, m1⟩ := q1
  have kfin := Keep.mk (M0.trans m1)
  clear M0 m1 P0 P
  refine call_post rfl Tryz.func77 rfl ?_
  repeat' (first | simp (config := { maxSteps := 4000000 }) (disch := first | exact dZ | fail) only [goS, append_gt, append_gt_yes, plainEv, resultsEv, resultListEv, reduceIte, Nat.reduceEqDiff, goT, beq_self_eq_true, goH, goU, rs77, *] | (refine dX ?_ ?_ <;> (intro _; try (exfalso; omega))) | (refine dY ?_ ?_ <;> intro _) | fail)
  exact ⟨_, _, rfl, rfl, kfin.out⟩
 | ok o l1 =>
  rw [w1] at q1
  obtain ⟨v1, tok1, sz1, rfl, ⟨tko, szo, rfl, hzo⟩, m1, Q1⟩ := q1
  have b1 := Q1.box
  have nb1 := Q1.lt
  have M1 := (M0.trans m1).trans (.put b n0 h1 (par tok1 sz1 l1 n { p with offices := o } { t with to := tko, so := szo }))
  have P1 := Q1.with (p' := { p with offices := o }) (t' := { t with to := tko, so := szo })
  have hl1 : l1.length ≤ l.length := by
   have := (nice_some kOffice (nice_decl kOffice) m).len l
   rw [w1] at this; exact this
  have dv2 := declared_ev b kKind (h1.put b (par tok1 sz1 l1 n { p with offices := o } { t with to := tko, so := szo }))
  rw [put_len] at dv2
  have P2 := (P1.push [.ptr (.box b) 0]).push [.v (.string (bs kKind))]
  have M2 := (M1.push [.ptr (.box b) 0]).push [.v (.string (bs kKind))]
  have hlen : (h1.put b (par tok1 sz1 l1 n { p with offices := o } { t with to := tko, so := szo })).boxes.length = h1.boxes.length := put_len ..
  have hd1 := push_old (cs := [.v (.string (bs kKind))]) (push_last (h1.put b (par tok1 sz1 l1 n { p with offices := o } { t with to := tko, so := szo })) [.ptr (.box b) 0])
  have hd2 := push_last ((h1.put b (par tok1 sz1 l1 n { p with offices := o } { t with to := tko, so := szo })).push [.ptr (.box b) 0]) [.v (.string (bs kKind))]
  rw [hlen] at hd1
  rw [push_len, hlen] at hd2
  obtain ⟨r3, h3, c3, q3⟩ := some_str_ev n0 P2 hd1 hd2 (by omega) (by omega) (M2.ok ho) (Nat.le_trans hn M2.tn) m (by omega)
  simp only [kKind] at c3 dv2
  rw [bind_ok]
  cases w3 : someP kKind (declP kKind) m l1 with
  | bad l3 =>
   rw [w3] at q3
   obtain ⟨rfl, m3⟩ := q3
   have kfin := Keep.mk (M2.trans m3)
   clear M0 M1 M2 m1 m3 P0 P1 P2 Q1 P hzo hlen
   refine call_post rfl Tryz.func77 rfl ?_
   repeat' (first | simp (config := { maxSteps := 4000000 }) (disch := first | exact dZ | fail) only [goS, append_gt, append_gt_yes, plainEv, resultsEv, resultListEv, reduceIte, Nat.reduceEqDiff, goT, beq_self_eq_true, goH, goU, rs77, fp111, fp28, stp_offices, Nat.zero_add, Nat.add_zero, Nat.reduceAdd, *] | (refine dX ?_ ?_ <;> (intro _; try (exfalso; omega))) | (refine dY ?_ ?_ <;> intro _) | fail)
   exact ⟨_, _, rfl, rfl, kfin.out⟩
  | ok k l3 =>
   rw [w3] at q3
   obtain ⟨v3, tok3, sz3, rfl, ⟨tkk, szk, rfl, hzk⟩, m3, Q3⟩ := q3
   have b3 := Q3.box
   have nb3 := Q3.lt
   have kM := Keep.mk ((M2.trans m3).trans (.put b n0 h3 (par tok3 sz3 l3 n { p with offices := o, kinds := k } { t with to := tko, so := szo, tk := tkk, sk := szk })))
   have kP := Keep.mk (Q3.with (p' := { p with offices := o, kinds := k }) (t' := { t with to := tko, so := szo, tk := tkk, sk := szk }))
   have k1 := Keep.mk hzo
   have k2 := Keep.mk hzk
   clear M0 M1 M2 m1 m3 P0 P1 P2 Q1 Q3 P hzo hzk hlen
   refine call_post rfl Tryz.func77 rfl ?_
   repeat' (first | simp (config := { maxSteps := 4000000 }) (disch := first | exact dZ | fail) only [goS, append_gt, append_gt_yes, plainEv, resultsEv, resultListEv, reduceIte, Nat.reduceEqDiff, goT, beq_self_eq_true, goH, goU, rs77, fp111, fp28, stp_offices, stp_kinds, Nat.zero_add, Nat.add_zero, Nat.reduceAdd, *] | (refine dX ?_ ?_ <;> (intro _; try (exfalso; omega))) | (refine dY ?_ ?_ <;> intro _) | fail)
   exact ⟨_, _, rfl, _, _, _, _, _, _, rfl, kM.out, kP.out, k1.out, k2.out⟩
theorem rules_ev2 {m : Nat} (n0 : Nat) (P : Pa b tok sz l n p t h) (ho : okHeap h = true) (hn : n0 ≤ h.tn) (hl : l.length < m) : ∃ r h', W.call 78 [.ptr (.box b) 0] h = some (r, h') ∧ UPost b n0 n p t h (rulesP m l) r h' := by
 have a23 := ag23; have s23 := sz23; have a26 := ag26; have s26 := sz26
 have nb := P.lt
 have bw_semi := bw1 cSemi
 have bw_2 := bw2 kChange cEq
 simp only [cSemi] at bw_semi
 simp only [kChange, cEq] at bw_2
 obtain ⟨r1, h1, c1, q1⟩ := some_rule_ev (m := m) n0 P (by omega) ho hn m hl
 simp only [kRule] at c1
 have e9 : rulesP m l = (someP kRule (ruleP m) m l).bind fun w r => (wantP [kChange, cEq] r).bind fun _ r => (exprP m r).bind fun x r => (wantT cSemi r).bind fun _ r => .ok (w, x) r := rfl
 rw [e9]
 cases w1 : someP kRule (ruleP m) m l with
 | bad l1 =>
  rw [w1] at q1
  obtain ⟨rfl, m1⟩ := q1
  clear P
  refine call_post rfl Tryz.func78 rfl ?_
  repeat' (first | simp (config := { maxSteps := 4000000 }) (disch := first | exact dZ | fail) only [goS, append_gt, append_gt_yes, plainEv, resultsEv, resultListEv, reduceIte, Nat.reduceEqDiff, goT, beq_self_eq_true, goH, goU, rs78, *] | (refine dX ?_ ?_ <;> (intro _; try (exfalso; omega))) | (refine dY ?_ ?_ <;> intro _) | fail)
  exact ⟨_, _, rfl, rfl, m1⟩
 | ok w l1 =>
  rw [w1] at q1
  obtain ⟨v1, tok1, sz1, rfl, ⟨tkr, szr, rr, rfl, hrr, hzr⟩, m1, Q1⟩ := q1
  have b1 := Q1.box
  have nb1 := Q1.lt
  have strul := @stp_rules h1 b tok1 sz1 l1 n p t tkr szr rr w b1
  have M1 := m1.trans (.put b n0 h1 (par tok1 sz1 l1 n { p with rules := w } { t with tr := tkr, sr := szr, rr := rr }))
  have P1 := Q1.with (p' := { p with rules := w }) (t' := { t with tr := tkr, sr := szr, rr := rr })
  have hl1 : l1.length ≤ l.length := by
   have := (nice_some kRule (nice_rule m) m).len l
   rw [w1] at this; exact this
  obtain ⟨r2, h2, c2, q2⟩ := want_ev n0 .tight [kChange, cEq] (by simp) P1
  simp only [kChange, cEq] at c2
  rw [bind_ok]
  cases w2 : wantP [kChange, cEq] l1 with
  | bad l2 =>
   rw [w2] at q2
   obtain ⟨rfl, m2⟩ := q2
   have kfin := Keep.mk (M1.trans m2)
   clear M1 m1 m2 P1 Q1 P hrr hzr b1
   refine call_post rfl Tryz.func78 rfl ?_
   repeat' (first | simp (config := { maxSteps := 4000000 }) (disch := first | exact dZ | fail) only [goS, append_gt, append_gt_yes, plainEv, resultsEv, resultListEv, reduceIte, Nat.reduceEqDiff, goT, beq_self_eq_true, goH, goU, rs78, fp111, fp28, Nat.zero_add, Nat.add_zero, Nat.reduceAdd, *] | (refine dX ?_ ?_ <;> (intro _; try (exfalso; omega))) | (refine dY ?_ ?_ <;> intro _) | fail)
   exact ⟨_, _, rfl, rfl, kfin.out⟩
  | ok u2 l2 =>
   rw [w2] at q2
   obtain ⟨v2, tok2, sz2, rfl, rfl, m2, P2⟩ := q2
   have M2 := M1.trans m2
   have hl2 : l2.length ≤ l1.length := by
    have := (nice_wants [kChange, cEq]).len l1
    rw [w2] at this; exact this
   obtain ⟨r3, h3, c3, q3⟩ := reads_expr m b n0 tok2 sz2 l2 n _ _ h2 P2 (M2.ok ho) (Nat.le_trans hn M2.tn) (by omega)
   rw [bind_ok]
   cases w3 : exprP m l2 with
   | bad l3 =>
    rw [w3] at q3
    obtain ⟨rfl, m3⟩ := q3
    have kfin := Keep.mk (M2.trans m3)
    clear M1 M2 m1 m2 m3 P1 P2 Q1 P hrr hzr b1
    refine call_post rfl Tryz.func78 rfl ?_
    repeat' (first | simp (config := { maxSteps := 4000000 }) (disch := first | exact dZ | fail) only [goS, append_gt, append_gt_yes, plainEv, resultsEv, resultListEv, reduceIte, Nat.reduceEqDiff, goT, beq_self_eq_true, goH, goU, rs78, fp111, fp28, Nat.zero_add, Nat.add_zero, Nat.reduceAdd, *] | (refine dX ?_ ?_ <;> (intro _; try (exfalso; omega))) | (refine dY ?_ ?_ <;> intro _) | fail)
    exact ⟨_, _, rfl, rfl, kfin.out⟩
   | ok x l3 =>
    rw [w3] at q3
    obtain ⟨v3, tok3, sz3, rfl, ⟨tke, sze, rowse, rfl, hre⟩, m3, Q3⟩ := q3
    have b3 := Q3.box
    have nb3 := Q3.lt
    have M3 := (M2.trans m3).trans (.put b n0 h3 (par tok3 sz3 l3 n { p with rules := w, change := x } { t with tr := tkr, sr := szr, rr := rr, tok := tke, sz := sze, rows := rowse }))
    have P3 := Q3.with (p' := { p with rules := w, change := x }) (t' := { t with tr := tkr, sr := szr, rr := rr, tok := tke, sz := sze, rows := rowse })
    obtain ⟨r4, h4, c4, q4⟩ := want1_ev n0 .tight cSemi P3
    simp only [cSemi] at c4
    rw [bind_ok]
    cases w4 : wantT cSemi l3 with
    | bad l4 =>
     rw [w4] at q4
     obtain ⟨rfl, m4⟩ := q4
     have kfin := Keep.mk (M3.trans m4)
     clear M1 M2 M3 m1 m2 m3 m4 P1 P2 P3 Q1 Q3 P hrr hzr hre b1
     refine call_post rfl Tryz.func78 rfl ?_
     repeat' (first | simp (config := { maxSteps := 4000000 }) (disch := first | exact dZ | fail) only [goS, append_gt, append_gt_yes, plainEv, resultsEv, resultListEv, reduceIte, Nat.reduceEqDiff, goT, beq_self_eq_true, goH, goU, rs78, fp111, fp28, stp_change, Nat.zero_add, Nat.add_zero, Nat.reduceAdd, *] | (refine dX ?_ ?_ <;> (intro _; try (exfalso; omega))) | (refine dY ?_ ?_ <;> intro _) | fail)
     exact ⟨_, _, rfl, rfl, kfin.out⟩
    | ok u4 l4 =>
     rw [w4] at q4
     obtain ⟨v4, tok4, sz4, rfl, rfl, m4, P4⟩ := q4
     have kfin := Keep.mk (M3.trans m4)
     have kP := Keep.mk P4
     have k1 := Keep.mk hrr
     have k2 := Keep.mk hzr
     have k3 := Keep.mk hre
     clear M1 M2 M3 m1 m2 m3 m4 P1 P2 P3 P4 Q1 Q3 P hrr hzr hre b1
     refine call_post rfl Tryz.func78 rfl ?_
     repeat' (first | simp (config := { maxSteps := 4000000 }) (disch := first | exact dZ | fail) only [goS, append_gt, append_gt_yes, plainEv, resultsEv, resultListEv, reduceIte, Nat.reduceEqDiff, goT, beq_self_eq_true, goH, goU, rs78, fp111, fp28, stp_change, Nat.zero_add, Nat.add_zero, Nat.reduceAdd, *] | (refine dX ?_ ?_ <;> (intro _; try (exfalso; omega))) | (refine dY ?_ ?_ <;> intro _) | fail)
     exact ⟨_, _, rfl, _, _, _, _, _, _, _, _, rfl, kfin.out, kP.out, k1.out, k2.out, k3.out⟩
end
end Go.Proofs.YtmdakolcndpjeaaGreatDoor
end

section
namespace Go.Proofs.YtmdakolcndpjeaaGreatDoor
open Go.AE Go.Lex Go.Pol Go.Syn
theorem rs75 : Tryz.f75.results.toList = [] := by kernel_rfl
theorem rs30 : Tryz.f30.results.toList = [.cell 4 28, .cell 5 3, .cell 6 31] := by kernel_rfl
theorem sz31' : sizeB Tryz.prog 31 = some 1 := by kernel_rfl
theorem ag31' : isAggB Tryz.prog 31 = some false := by kernel_rfl
theorem zc31' : (zeroA Tryz.prog 31).bind AV.cellsO = some [.v (.int .i64 0)] := by kernel_rfl
theorem zc3' : (zeroA Tryz.prog 3).bind AV.cellsO = some [.v (.int .i64 0)] := by kernel_rfl
theorem zc107 : (zeroA Tryz.prog 107).bind AV.cellsO = some [.v (.int .i64 0)] := by kernel_rfl
theorem sz107 : sizeB Tryz.prog 107 = some 1 := by kernel_rfl
theorem fa107 (r : Ref) (off : Nat) : fieldAddrEv Tryz.prog 107 (.ptr r off) 0 = some (.ptr r (off + 0)) := by kernel_rfl
theorem as107 (x : AV) : assertEv Tryz.prog (.iface 107 x) 107 true = some (.tuple [x, .v (.bool true)]) := by kernel_rfl
theorem ii20' : isIface Tryz.prog 20 = some true := by kernel_rfl
theorem bz28 : buildEv Tryz.prog 28 [] = some (.agg (prow zP zT)) := by kernel_rfl
theorem spl1 {a z : AV} : splice [a] 0 [z] = [z] := rfl
section
variable {h : Heap} {c : Nat} {p p' : Po} {t t' : PT} {a a' : Int}
theorem st28 (hb : h.boxes[c]? = some (prow p t)) : storeEv Tryz.prog h 28 (.ptr (.box c) 0) (.agg (prow p' t')) = some (h.put c (prow p' t')) := store_box (off := 0) (cs := prow p t) (xs := prow p' t') rfl sz28 hb rfl (Nat.le_refl 10)
theorem st107 (hb : h.boxes[c]? = some [.v (.int .i64 a)]) : storeEv Tryz.prog h 107 (.ptr (.box c) 0) (.agg [.v (.int .i64 a')]) = some (h.put c [.v (.int .i64 a')]) := store_box (off := 0) (cs := [.v (.int .i64 a)]) (xs := [.v (.int .i64 a')]) rfl sz107 hb rfl (Nat.le_refl 1)
theorem st3 (hb : h.boxes[c]? = some [.v (.int .i64 a)]) : storeEv Tryz.prog h 3 (.ptr (.box c) 0) (.v (.int .i64 a')) = some (h.put c [.v (.int .i64 a')]) := store_box (off := 0) (cs := [.v (.int .i64 a)]) (xs := [.v (.int .i64 a')]) rfl sz3 hb rfl (Nat.le_refl 1)
theorem st31 (hb : h.boxes[c]? = some [.v (.int .i64 a)]) : storeEv Tryz.prog h 31 (.ptr (.box c) 0) (.v (.int .i64 a')) = some (h.put c [.v (.int .i64 a')]) := store_box (off := 0) (cs := [.v (.int .i64 a)]) (xs := [.v (.int .i64 a')]) rfl sz31' hb rfl (Nat.le_refl 1)
end
def back3 (n : Nat) : List AV := [.ptr (.box n) 0, .ptr (.box (n + 1)) 0, .ptr (.box (n + 1 + 1)) 0]
theorem read_calm (n : Nat) (h : Heap) : W.dcall 75 (back3 n) none h = some (.ret (.tuple []), none, h) := by
 have u20 := Tryz.underlying20
 refine dcall_of_run Tryz.func75 rfl ?_
 unfold back3
 repeat' (first | simp (config := { maxSteps := 4000000 }) (disch := first | exact dZ | fail) only [goS, append_gt, append_gt_yes, plainEv, resultsEv, resultListEv, reduceIte, Nat.reduceEqDiff, goT, beq_self_eq_true, goH, goU, rs75, bin_nil_neq, and_self, *] | (refine dX ?_ ?_ <;> (intro _; try (exfalso; omega))) | (refine dY ?_ ?_ <;> intro _) | fail)
theorem read_saved (n : Nat) (h : Heap) (a : Int) {p : Po} {t : PT} {y z : Int} (h0 : h.boxes[n]? = some (prow p t)) (h1 : h.boxes[n + 1]? = some [.v (.int .i64 y)]) (h2 : h.boxes[n + 1 + 1]? = some [.v (.int .i64 z)]) :
 W.dcall 75 (back3 n) (some (wrongV a, false)) h = some (.ret (.tuple []), some (wrongV a, true), (((h.push [.v (.int .i64 a)]).put n (prow zP zT)).put (n + 1) [.v (.int .i64 a)]).put (n + 1 + 1) [.v (.int .i64 190)]) := by
 have u20 := Tryz.underlying20
 have i20 := ii20'
 have s28 := sz28; have s31 := sz31'; have s3 := sz3; have z107 := zc107; have a3 := ag3
 have n2 := (List.getElem?_eq_some_iff.1 h2).1
 refine dcall_of_run Tryz.func75 rfl ?_
 unfold back3 wrongV
 repeat' (first | simp (config := { maxSteps := 4000000 }) (disch := first | exact dZ | fail) only [goS, append_gt, append_gt_yes, plainEv, resultsEv, resultListEv, reduceIte, Nat.reduceEqDiff, goT, beq_self_eq_true, goH, goU, rs75, bin_iface_neq, as107, fa107, bz28, st28, st107, st3, st31, spl1, put_push_eq, cell_one, and_self, *] | (refine dX ?_ ?_ <;> (intro _; try (exfalso; omega))) | (refine dY ?_ ?_ <;> intro _) | fail)
 refine run_draw_but [(2, 3)] (by kernel_rfl) ?_ ?_
 ·intro pr hp
  simp only [List.mem_singleton] at hp
  subst hp
  refine stable_before (x := .ptr (.box h.boxes.length) 0) (v := .v (.int .i64 a)) (by kernel_rfl) rfl rfl rfl (by kernel_rfl) (by simp [sameAV, sameV]) ?_ ?_
  ·simp only [List.take_succ_cons, List.take_zero]
   repeat' (first | simp (config := { maxSteps := 4000000 }) (disch := first | exact dZ | fail) only [goS, append_gt, append_gt_yes, plainEv, resultsEv, resultListEv, reduceIte, Nat.reduceEqDiff, goT, beq_self_eq_true, goH, goU, rs75, bin_iface_neq, as107, fa107, bz28, st28, st107, st3, st31, spl1, put_push_eq, cell_one, and_self, *] | (refine dX ?_ ?_ <;> (intro _; try (exfalso; omega))) | (refine dY ?_ ?_ <;> intro _) | fail)
  ·simp only [List.take_succ_cons, List.take_zero]
   repeat' (first | simp (config := { maxSteps := 4000000 }) (disch := first | exact dZ | fail) only [goS, append_gt, append_gt_yes, plainEv, resultsEv, resultListEv, reduceIte, Nat.reduceEqDiff, goT, beq_self_eq_true, goH, goU, rs75, bin_iface_neq, as107, fa107, bz28, st28, st107, st3, st31, spl1, put_push_eq, cell_one, and_self, *] | (refine dX ?_ ?_ <;> (intro _; try (exfalso; omega))) | (refine dY ?_ ?_ <;> intro _) | fail)
 ·repeat' (first | simp (config := { maxSteps := 4000000 }) (disch := first | exact dZ | fail) only [goS, append_gt, append_gt_yes, plainEv, resultsEv, resultListEv, reduceIte, Nat.reduceEqDiff, goT, beq_self_eq_true, goH, goU, rs75, bin_iface_neq, as107, fa107, bz28, st28, st107, st3, st31, spl1, put_push_eq, cell_one, and_self, *] | (refine dX ?_ ?_ <;> (intro _; try (exfalso; omega))) | (refine dY ?_ ?_ <;> intro _) | fail)
end Go.Proofs.YtmdakolcndpjeaaGreatDoor
end

section
namespace Go.Proofs.YtmdakolcndpjeaaGreatDoor
open Go.AE Go.Lex Go.Pol Go.Syn
theorem bld111 (tk : Tok) (sz : Nat) (l : List Tk) (n : Int) : buildEv Tryz.prog 111 [(0, .list tk sz (toks l)), (1, .v (.int .i64 n))] = some (.agg (par tk sz l n zP zT)) := by kernel_rfl
def fns (c : Nat) : List (List AV) := [[.func (.func 76) [.ptr (.box c) 0] []], [.func (.func 77) [.ptr (.box c) 0] []], [.func (.func 78) [.ptr (.box c) 0] []]]
theorem bld112 (c : Nat) : buildSliceEv Tryz.prog 112 3 [(0, .func (.func 76) [.ptr (.box c) 0] []), (1, .func (.func 77) [.ptr (.box c) 0] []), (2, .func (.func 78) [.ptr (.box c) 0] [])] = some (.list .tight 1 (fns c)) := by kernel_rfl
theorem fns_0 (c : Nat) : (fns c)[0]? = some [.func (.func 76) [.ptr (.box c) 0] []] := rfl
theorem fns_1 (c : Nat) : (fns c)[1]? = some [.func (.func 77) [.ptr (.box c) 0] []] := rfl
theorem fns_2 (c : Nat) : (fns c)[2]? = some [.func (.func 78) [.ptr (.box c) 0] []] := rfl
theorem fns_len (c : Nat) : (fns c).length = 3 := rfl
theorem ag1 : isAggB Tryz.prog 1 = some false := by kernel_rfl
theorem sz1 : sizeB Tryz.prog 1 = some 1 := by kernel_rfl
def RdPost (m : Nat) (l : List Tk) (n : Int) (h : Heap) (r : Res) (h' : Heap) : Prop :=
 match wholeP m l with
 | .ok p _ => ∃ t, r = .ret (.tuple [.agg (prow p t), .v (.int .i64 0), .v (.int .i64 0)]) ∧ POk p t ∧ Ext h h'
 | .bad q => r = .ret (.tuple [.agg (prow zP zT), .v (.int .i64 (failAt n q)), .v (.int .i64 190)]) ∧ Ext h h'
def H3 (h : Heap) : Heap := ((h.push (prow zP zT)).push [.v (.int .i64 0)]).push [.v (.int .i64 0)]
theorem H3_len (h : Heap) : (H3 h).boxes.length = h.boxes.length + 1 + 1 + 1 := by simp only [H3, push_len]
theorem H3_ext (h : Heap) : Ext h (H3 h) := ((Ext.push h _).trans (.push _ _)).trans (.push _ _)
theorem H3_0 (h : Heap) : (H3 h).boxes[h.boxes.length]? = some (prow zP zT) := push_old (push_old (push_last _ _))
theorem H3_1 (h : Heap) : (H3 h).boxes[h.boxes.length + 1]? = some [.v (.int .i64 0)] := by have := push_old (cs := [.v (.int .i64 0)]) (push_last (h.push (prow zP zT)) [.v (.int .i64 0)]); rw [push_len] at this; exact this
theorem H3_2 (h : Heap) : (H3 h).boxes[h.boxes.length + 1 + 1]? = some [.v (.int .i64 0)] := by have := push_last ((h.push (prow zP zT)).push [.v (.int .i64 0)]) [.v (.int .i64 0)]; rw [push_len, push_len] at this; exact this
structure Rd (h h' : Heap) : Prop where
 mu : Mut (h.boxes.length + 1 + 1 + 1) h.tn h h'
 b0 : h'.boxes[h.boxes.length]? = some (prow zP zT)
 b1 : h'.boxes[h.boxes.length + 1]? = some [.v (.int .i64 0)]
 b2 : h'.boxes[h.boxes.length + 1 + 1]? = some [.v (.int .i64 0)]
theorem Rd.call {h h' h2 : Heap} (R : Rd h h') (m : Mut (h.boxes.length + 1 + 1 + 1) h.tn h' h2) : Rd h h2 := ⟨R.mu.trans m, m.box _ _ (by omega) R.b0, m.box _ _ (by omega) R.b1, m.box _ _ (by omega) R.b2⟩
theorem Rd.ext {h h' : Heap} (R : Rd h h') : Ext h h' := (Ext.refl h).mut R.mu (by omega)
theorem whole_split (m : Nat) (l : List Tk) : wholeP m l = (polP m l).bind fun p r => if r = [] then .ok p r else .bad r := rfl
theorem pol_ok {m : Nat} {l r : List Tk} {p : Po} (h : polP m l = .ok p r) (hl : l.length ≤ 100000000) {t : PT} (h1 : RRows p.rules t.rr) (h2 : Row p.change (p5 p t)) (h3 : ∀ i : Nat, i < p.kinds.length → t.sk = 1) (h4 : ∀ i : Nat, i < p.offices.length → t.so = 1) (h5 : ∀ i : Nat, i < p.rules.length → t.sr = 8) : POk p t := by
 have hlen := pol_len h
 have e : (tokP p).length = 6 + ((tokD kOffice p.offices).length + ((tokD kKind p.kinds).length + ((p.rules.flatMap tokR).length + (2 + ((tokE p.change).length + 1))))) := by simp [tokP]; omega
 have lo := (flat_len (l := p.offices) (f := fun x => [wT kOffice, nT x, wT cSemi]) (fun x _ => by simp)).1
 have lk := (flat_len (l := p.kinds) (f := fun x => [wT kKind, nT x, wT cSemi]) (fun x _ => by simp)).1
 have lr := (flat_len (l := p.rules) (f := tokR) (fun x _ => by simp [tokR])).1
 have lo : p.offices.length ≤ (tokD kOffice p.offices).length := lo
 have lk : p.kinds.length ≤ (tokD kKind p.kinds).length := lk
 exact ⟨h1, h2, h3, h4, h5, by omega, by omega, by omega⟩
theorem read_ev (m : Nat) (tk : Tok) (sz : Nat) (l : List Tk) (n : Int) (hz : ∀ i : Nat, i < l.length → sz = 4) (hl : l.length ≤ 100000000) (hm : l.length < m) (h : Heap) (ho : okHeap h = true) : ∃ r h', W.call 30 [.list tk sz (toks l), .v (.int .i64 n)] h = some (r, h') ∧ RdPost m l n h r h' := by
 have z28 := zc28; have s28 := sz28; have z3 := zc3'; have s3 := sz3; have z31 := zc31'; have s31 := sz31'; have a28 := ag28; have a3 := ag3; have a31 := ag31'
 have u39 := Tryz.underlying39; have u112 := Tryz.underlying112; have a1 := ag1; have s1 := sz1; have a39 := ag39
 have f0 := fns_0 (h.boxes.length + 1 + 1 + 1); have f1 := fns_1 (h.boxes.length + 1 + 1 + 1); have f2 := fns_2 (h.boxes.length + 1 + 1 + 1); have fl := fns_len (h.boxes.length + 1 + 1 + 1)
 have bl := bld112 (h.boxes.length + 1 + 1 + 1)
 have calm := read_calm h.boxes.length
 have h30 := H3_0 h; have h31 := H3_1 h; have h32 := H3_2 h; have h3l := H3_len h
 have P0 : Pa (h.boxes.length + 1 + 1 + 1) tk sz l n zP zT ((H3 h).push (par tk sz l n zP zT)) := ⟨by have := push_last (H3 h) (par tk sz l n zP zT); rw [h3l] at this; exact this, hz, hl⟩
 have R0 : Rd h ((H3 h).push (par tk sz l n zP zT)) := ⟨(Mut.of_ext (H3_ext h) (Nat.le_refl _)).push _, push_old h30, push_old h31, push_old h32⟩
 obtain ⟨r1, h1, c1, q1⟩ := head_ev h.tn P0 rfl
 have hsp := polP_split m l
 unfold RdPost
 rw [whole_split, hsp]
 simp only [H3] at c1
 cases w1 : headP l with
 | bad l1 =>
  rw [w1] at q1
  obtain ⟨rfl, m1⟩ := q1
  have R1 := R0.call m1
  have sv := read_saved h.boxes.length h1 (failAt n l1) R1.b0 R1.b1 R1.b2
  have kfin := Keep.mk ((((R1.ext.trans (.push h1 [.v (.int .i64 (failAt n l1))])).put_new (b := h.boxes.length) (by omega) (prow zP zT)).put_new (b := h.boxes.length + 1) (by omega) [.v (.int .i64 (failAt n l1))]).put_new (b := h.boxes.length + 1 + 1) (by omega) [.v (.int .i64 190)])
  unfold back3 at sv calm
  have nl := (List.getElem?_eq_some_iff.1 R1.b2).1
  clear R0 R1 P0 m1
  refine call_post rfl Tryz.func30 rfl ?_
  repeat' (first | simp (config := { maxSteps := 4000000 }) (disch := first | exact dZ | fail) only [goS, append_gt, append_gt_yes, plainEv, resultsEv, resultListEv, reduceIte, Nat.reduceEqDiff, goT, beq_self_eq_true, goH, goU, rs30, bld111, par_cells, bl, push_len, index_list, load_row, cell_one, List.cons_append, List.nil_append, List.append_nil, onceQ_normal, onceQ_panic, onceQ_exit, onceQ_ret, Nat.reduceAdd, Int.reduceAdd, Int.reduceLT, Int.toNat_one, Int.reduceToNat, f0, f1, f2, fl, put_push_eq, load28, *] | (refine dX ?_ ?_ <;> (intro _; try (exfalso; omega))) | (refine dY ?_ ?_ <;> intro _) | fail)
  refine run_once ?_
  repeat' (first | simp (config := { maxSteps := 4000000 }) (disch := first | exact dZ | fail) only [goS, append_gt, append_gt_yes, plainEv, resultsEv, resultListEv, reduceIte, Nat.reduceEqDiff, goT, beq_self_eq_true, goH, goU, rs30, bld111, par_cells, bl, push_len, index_list, load_row, cell_one, List.cons_append, List.nil_append, List.append_nil, onceQ_normal, onceQ_panic, onceQ_exit, onceQ_ret, Nat.reduceAdd, Int.reduceAdd, Int.reduceLT, Int.toNat_one, Int.reduceToNat, f0, f1, f2, fl, put_push_eq, load28, *] | (refine dX ?_ ?_ <;> (intro _; try (exfalso; omega))) | (refine dY ?_ ?_ <;> intro _) | fail)
  exact ⟨_, _, rfl, rfl, kfin.out⟩
 | ok hd l1 =>
  rw [w1] at q1
  obtain ⟨tok1, sz1, rfl, m1, P1⟩ := q1
  have R1 := R0.call m1
  have hl1 : l1.length ≤ l.length := by
   have := nice_headP.len l
   rw [w1] at this; exact this
  obtain ⟨r2, h2, c2, q2⟩ := names_ev2 (m := m) h.tn P1 (R1.mu.ok ho) R1.mu.tn (by omega)
  rw [bind_ok]
  cases w2 : namesP m l1 with
  | bad l2 =>
   rw [w2] at q2
   obtain ⟨rfl, m2⟩ := q2
   have R2 := R1.call m2
   have sv := read_saved h.boxes.length h2 (failAt n l2) R2.b0 R2.b1 R2.b2
   have kfin := Keep.mk ((((R2.ext.trans (.push h2 [.v (.int .i64 (failAt n l2))])).put_new (b := h.boxes.length) (by omega) (prow zP zT)).put_new (b := h.boxes.length + 1) (by omega) [.v (.int .i64 (failAt n l2))]).put_new (b := h.boxes.length + 1 + 1) (by omega) [.v (.int .i64 190)])
   unfold back3 at sv calm
   have nl := (List.getElem?_eq_some_iff.1 R2.b2).1
   clear R0 R1 R2 P0 P1 m1 m2
   refine call_post rfl Tryz.func30 rfl ?_
   repeat' (first | simp (config := { maxSteps := 4000000 }) (disch := first | exact dZ | fail) only [goS, append_gt, append_gt_yes, plainEv, resultsEv, resultListEv, reduceIte, Nat.reduceEqDiff, goT, beq_self_eq_true, goH, goU, rs30, bld111, par_cells, bl, push_len, index_list, load_row, cell_one, List.cons_append, List.nil_append, List.append_nil, onceQ_normal, onceQ_panic, onceQ_exit, onceQ_ret, Nat.reduceAdd, Int.reduceAdd, Int.reduceLT, Int.toNat_one, Int.reduceToNat, f0, f1, f2, fl, put_push_eq, load28, *] | (refine dX ?_ ?_ <;> (intro _; try (exfalso; omega))) | (refine dY ?_ ?_ <;> intro _) | fail)
   refine run_once ?_
   repeat' (first | simp (config := { maxSteps := 4000000 }) (disch := first | exact dZ | fail) only [goS, append_gt, append_gt_yes, plainEv, resultsEv, resultListEv, reduceIte, Nat.reduceEqDiff, goT, beq_self_eq_true, goH, goU, rs30, bld111, par_cells, bl, push_len, index_list, load_row, cell_one, List.cons_append, List.nil_append, List.append_nil, onceQ_normal, onceQ_panic, onceQ_exit, onceQ_ret, Nat.reduceAdd, Int.reduceAdd, Int.reduceLT, Int.toNat_one, Int.reduceToNat, f0, f1, f2, fl, put_push_eq, load28, *] | (refine dX ?_ ?_ <;> (intro _; try (exfalso; omega))) | (refine dY ?_ ?_ <;> intro _) | fail)
   refine run_once ?_
   repeat' (first | simp (config := { maxSteps := 4000000 }) (disch := first | exact dZ | fail) only [goS, append_gt, append_gt_yes, plainEv, resultsEv, resultListEv, reduceIte, Nat.reduceEqDiff, goT, beq_self_eq_true, goH, goU, rs30, bld111, par_cells, bl, push_len, index_list, load_row, cell_one, List.cons_append, List.nil_append, List.append_nil, onceQ_normal, onceQ_panic, onceQ_exit, onceQ_ret, Nat.reduceAdd, Int.reduceAdd, Int.reduceLT, Int.toNat_one, Int.reduceToNat, f0, f1, f2, fl, put_push_eq, load28, *] | (refine dX ?_ ?_ <;> (intro _; try (exfalso; omega))) | (refine dY ?_ ?_ <;> intro _) | fail)
   exact ⟨_, _, rfl, rfl, kfin.out⟩
  | ok ns l2 =>
   rw [w2] at q2
   obtain ⟨tok2, sz2, to2, so2, tk2, sk2, rfl, m2, P2, zo, zk⟩ := q2
   have R2 := R1.call m2
   have hl2 : l2.length ≤ l1.length := by
    have := (nice_bind (nice_some kOffice (nice_decl kOffice) m) fun o => nice_bind (nice_some kKind (nice_decl kKind) m) fun k => nice_ok (o, k)).len l1
    have e : (namesP m l1).left.length ≤ l1.length := this
    rw [w2] at e; exact e
   obtain ⟨r3, h3, c3, q3⟩ := rules_ev2 (m := m) h.tn P2 (R2.mu.ok ho) R2.mu.tn (by omega)
   rw [bind_ok]
   cases w3 : rulesP m l2 with
   | bad l3 =>
    rw [w3] at q3
    obtain ⟨rfl, m3⟩ := q3
    have R3 := R2.call m3
    have sv := read_saved h.boxes.length h3 (failAt n l3) R3.b0 R3.b1 R3.b2
    have kfin := Keep.mk ((((R3.ext.trans (.push h3 [.v (.int .i64 (failAt n l3))])).put_new (b := h.boxes.length) (by omega) (prow zP zT)).put_new (b := h.boxes.length + 1) (by omega) [.v (.int .i64 (failAt n l3))]).put_new (b := h.boxes.length + 1 + 1) (by omega) [.v (.int .i64 190)])
    unfold back3 at sv calm
    have nl := (List.getElem?_eq_some_iff.1 R3.b2).1
    clear R0 R1 R2 R3 P0 P1 P2 m1 m2 m3 zo zk
    refine call_post rfl Tryz.func30 rfl ?_
    repeat' (first | simp (config := { maxSteps := 4000000 }) (disch := first | exact dZ | fail) only [goS, append_gt, append_gt_yes, plainEv, resultsEv, resultListEv, reduceIte, Nat.reduceEqDiff, goT, beq_self_eq_true, goH, goU, rs30, bld111, par_cells, bl, push_len, index_list, load_row, cell_one, List.cons_append, List.nil_append, List.append_nil, onceQ_normal, onceQ_panic, onceQ_exit, onceQ_ret, Nat.reduceAdd, Int.reduceAdd, Int.reduceLT, Int.toNat_one, Int.reduceToNat, f0, f1, f2, fl, put_push_eq, load28, *] | (refine dX ?_ ?_ <;> (intro _; try (exfalso; omega))) | (refine dY ?_ ?_ <;> intro _) | fail)
    refine run_once ?_
    repeat' (first | simp (config := { maxSteps := 4000000 }) (disch := first | exact dZ | fail) only [goS, append_gt, append_gt_yes, plainEv, resultsEv, resultListEv, reduceIte, Nat.reduceEqDiff, goT, beq_self_eq_true, goH, goU, rs30, bld111, par_cells, bl, push_len, index_list, load_row, cell_one, List.cons_append, List.nil_append, List.append_nil, onceQ_normal, onceQ_panic, onceQ_exit, onceQ_ret, Nat.reduceAdd, Int.reduceAdd, Int.reduceLT, Int.toNat_one, Int.reduceToNat, f0, f1, f2, fl, put_push_eq, load28, *] | (refine dX ?_ ?_ <;> (intro _; try (exfalso; omega))) | (refine dY ?_ ?_ <;> intro _) | fail)
    refine run_once ?_
    repeat' (first | simp (config := { maxSteps := 4000000 }) (disch := first | exact dZ | fail) only [goS, append_gt, append_gt_yes, plainEv, resultsEv, resultListEv, reduceIte, Nat.reduceEqDiff, goT, beq_self_eq_true, goH, goU, rs30, bld111, par_cells, bl, push_len, index_list, load_row, cell_one, List.cons_append, List.nil_append, List.append_nil, onceQ_normal, onceQ_panic, onceQ_exit, onceQ_ret, Nat.reduceAdd, Int.reduceAdd, Int.reduceLT, Int.toNat_one, Int.reduceToNat, f0, f1, f2, fl, put_push_eq, load28, *] | (refine dX ?_ ?_ <;> (intro _; try (exfalso; omega))) | (refine dY ?_ ?_ <;> intro _) | fail)
    refine run_once ?_
    repeat' (first | simp (config := { maxSteps := 4000000 }) (disch := first | exact dZ | fail) only [goS, append_gt, append_gt_yes, plainEv, resultsEv, resultListEv, reduceIte, Nat.reduceEqDiff, goT, beq_self_eq_true, goH, goU, rs30, bld111, par_cells, bl, push_len, index_list, load_row, cell_one, List.cons_append, List.nil_append, List.append_nil, onceQ_normal, onceQ_panic, onceQ_exit, onceQ_ret, Nat.reduceAdd, Int.reduceAdd, Int.reduceLT, Int.toNat_one, Int.reduceToNat, f0, f1, f2, fl, put_push_eq, load28, *] | (refine dX ?_ ?_ <;> (intro _; try (exfalso; omega))) | (refine dY ?_ ?_ <;> intro _) | fail)
    exact ⟨_, _, rfl, rfl, kfin.out⟩
   | ok wx l3 =>
    rw [w3] at q3
    obtain ⟨tok3, sz3, tr3, sr3, rr3, tke3, sze3, rowse3, rfl, m3, P3, hrr, zr, hre⟩ := q3
    have R3 := R2.call m3
    have hpol : polP m l = .ok ⟨hd.1, ns.2, ns.1, wx.1, wx.2, hd.2⟩ l3 := by rw [hsp, w1, bind_ok, w2, bind_ok, w3, bind_ok]
    have b3 := P3.box
    have nb3 := P3.lt
    rw [bind_ok, bind_ok]
    cases l3 with
    | nil =>
     have hok := pol_ok (t := ⟨tk2, sk2, to2, so2, tr3, sr3, rr3, tke3, sze3, rowse3⟩) hpol hl hrr hre zk zo zr
     have b0 := R3.b0; have b1 := R3.b1; have b2 := R3.b2
     have kfin := Keep.mk (((R3.ext.put_new (b := h.boxes.length) (by omega) (prow ⟨hd.1, ns.2, ns.1, wx.1, wx.2, hd.2⟩ ⟨tk2, sk2, to2, so2, tr3, sr3, rr3, tke3, sze3, rowse3⟩)).put_new (b := h.boxes.length + 1) (by omega) [.v (.int .i64 0)]).put_new (b := h.boxes.length + 1 + 1) (by omega) [.v (.int .i64 0)])
     have kok := Keep.mk hok
     have nl := (List.getElem?_eq_some_iff.1 R3.b2).1
     have hcalm := read_calm h.boxes.length (((h3.put h.boxes.length (prow ⟨hd.1, ns.2, ns.1, wx.1, wx.2, hd.2⟩ ⟨tk2, sk2, to2, so2, tr3, sr3, rr3, tke3, sze3, rowse3⟩)).put (h.boxes.length + 1) [.v (.int .i64 0)]).put (h.boxes.length + 1 + 1) [.v (.int .i64 0)])
     unfold back3 at calm hcalm
     have ipn : ¬ ((0 : Int) < (([] : List Tk).length : Int)) := by simp
     have ipd : decide ((0 : Int) < (([] : List Tk).length : Int)) = false := decide_eq_false ipn
     rw [if_pos rfl]
     clear R0 R1 R2 R3 P0 P1 P2 P3 m1 m2 m3 zo zk zr hrr hre hok hpol hsp
     refine call_post rfl Tryz.func30 rfl ?_
     repeat' (first | simp (config := { maxSteps := 4000000 }) (disch := first | exact dZ | fail) only [goS, append_gt, append_gt_yes, plainEv, resultsEv, resultListEv, reduceIte, Nat.reduceEqDiff, goT, beq_self_eq_true, goH, goU, rs30, bld111, par_cells, bl, push_len, index_list, load_row, cell_one, List.cons_append, List.nil_append, List.append_nil, onceQ_normal, onceQ_panic, onceQ_exit, onceQ_ret, Nat.reduceAdd, Int.reduceAdd, Int.reduceLT, Int.toNat_one, Int.reduceToNat, f0, f1, f2, fl, put_push_eq, load28, fp111, pars, toks_len, toks_nil, ld28, st28, st3, st31, spl1, Nat.zero_add, Nat.add_zero, *] | (refine dX ?_ ?_ <;> (intro _; try (exfalso; omega))) | (refine dY ?_ ?_ <;> intro _) | fail)
     refine run_once ?_
     repeat' (first | simp (config := { maxSteps := 4000000 }) (disch := first | exact dZ | fail) only [goS, append_gt, append_gt_yes, plainEv, resultsEv, resultListEv, reduceIte, Nat.reduceEqDiff, goT, beq_self_eq_true, goH, goU, rs30, bld111, par_cells, bl, push_len, index_list, load_row, cell_one, List.cons_append, List.nil_append, List.append_nil, onceQ_normal, onceQ_panic, onceQ_exit, onceQ_ret, Nat.reduceAdd, Int.reduceAdd, Int.reduceLT, Int.toNat_one, Int.reduceToNat, f0, f1, f2, fl, put_push_eq, load28, fp111, pars, toks_len, toks_nil, ld28, st28, st3, st31, spl1, Nat.zero_add, Nat.add_zero, *] | (refine dX ?_ ?_ <;> (intro _; try (exfalso; omega))) | (refine dY ?_ ?_ <;> intro _) | fail)
     refine run_once ?_
     repeat' (first | simp (config := { maxSteps := 4000000 }) (disch := first | exact dZ | fail) only [goS, append_gt, append_gt_yes, plainEv, resultsEv, resultListEv, reduceIte, Nat.reduceEqDiff, goT, beq_self_eq_true, goH, goU, rs30, bld111, par_cells, bl, push_len, index_list, load_row, cell_one, List.cons_append, List.nil_append, List.append_nil, onceQ_normal, onceQ_panic, onceQ_exit, onceQ_ret, Nat.reduceAdd, Int.reduceAdd, Int.reduceLT, Int.toNat_one, Int.reduceToNat, f0, f1, f2, fl, put_push_eq, load28, fp111, pars, toks_len, toks_nil, ld28, st28, st3, st31, spl1, Nat.zero_add, Nat.add_zero, *] | (refine dX ?_ ?_ <;> (intro _; try (exfalso; omega))) | (refine dY ?_ ?_ <;> intro _) | fail)
     refine run_once ?_
     repeat' (first | simp (config := { maxSteps := 4000000 }) (disch := first | exact dZ | fail) only [goS, append_gt, append_gt_yes, plainEv, resultsEv, resultListEv, reduceIte, Nat.reduceEqDiff, goT, beq_self_eq_true, goH, goU, rs30, bld111, par_cells, bl, push_len, index_list, load_row, cell_one, List.cons_append, List.nil_append, List.append_nil, onceQ_normal, onceQ_panic, onceQ_exit, onceQ_ret, Nat.reduceAdd, Int.reduceAdd, Int.reduceLT, Int.toNat_one, Int.reduceToNat, f0, f1, f2, fl, put_push_eq, load28, fp111, pars, toks_len, toks_nil, ld28, st28, st3, st31, spl1, Nat.zero_add, Nat.add_zero, *] | (refine dX ?_ ?_ <;> (intro _; try (exfalso; omega))) | (refine dY ?_ ?_ <;> intro _) | fail)
     refine run_once ?_
     repeat' (first | simp (config := { maxSteps := 4000000 }) (disch := first | exact dZ | fail) only [goS, append_gt, append_gt_yes, plainEv, resultsEv, resultListEv, reduceIte, Nat.reduceEqDiff, goT, beq_self_eq_true, goH, goU, rs30, bld111, par_cells, bl, push_len, index_list, load_row, cell_one, List.cons_append, List.nil_append, List.append_nil, onceQ_normal, onceQ_panic, onceQ_exit, onceQ_ret, Nat.reduceAdd, Int.reduceAdd, Int.reduceLT, Int.toNat_one, Int.reduceToNat, f0, f1, f2, fl, put_push_eq, load28, fp111, pars, toks_len, toks_nil, ld28, st28, st3, st31, spl1, Nat.zero_add, Nat.add_zero, *] | (refine dX ?_ ?_ <;> (intro _; try (exfalso; omega))) | (refine dY ?_ ?_ <;> intro _) | fail)
     exact ⟨_, _, rfl, _, rfl, kok.out, kfin.out⟩
    | cons x r3 =>
     have cf := fail_ev P3
     have ip : (0 : Int) < ((x :: r3).length : Int) := by rw [List.length_cons]; omega
     have sv := read_saved h.boxes.length h3 (failAt n (x :: r3)) R3.b0 R3.b1 R3.b2
     have kfin := Keep.mk ((((R3.ext.trans (.push h3 [.v (.int .i64 (failAt n (x :: r3)))])).put_new (b := h.boxes.length) (by omega) (prow zP zT)).put_new (b := h.boxes.length + 1) (by omega) [.v (.int .i64 (failAt n (x :: r3)))]).put_new (b := h.boxes.length + 1 + 1) (by omega) [.v (.int .i64 190)])
     unfold back3 at sv calm
     have nl := (List.getElem?_eq_some_iff.1 R3.b2).1
     rw [if_neg (by simp)]
     clear R0 R1 R2 R3 P0 P1 P2 P3 m1 m2 m3 zo zk zr hrr hre hpol hsp
     refine call_post rfl Tryz.func30 rfl ?_
     repeat' (first | simp (config := { maxSteps := 4000000 }) (disch := first | exact dZ | fail) only [goS, append_gt, append_gt_yes, plainEv, resultsEv, resultListEv, reduceIte, Nat.reduceEqDiff, goT, beq_self_eq_true, goH, goU, rs30, bld111, par_cells, bl, push_len, index_list, load_row, cell_one, List.cons_append, List.nil_append, List.append_nil, onceQ_normal, onceQ_panic, onceQ_exit, onceQ_ret, Nat.reduceAdd, Int.reduceAdd, Int.reduceLT, Int.toNat_one, Int.reduceToNat, f0, f1, f2, fl, put_push_eq, load28, fp111, pars, toks_len, toks_nil, ld28, st28, st3, st31, spl1, Nat.zero_add, Nat.add_zero, *] | (refine dX ?_ ?_ <;> (intro _; try (exfalso; omega))) | (refine dY ?_ ?_ <;> intro _) | fail)
     refine run_once ?_
     repeat' (first | simp (config := { maxSteps := 4000000 }) (disch := first | exact dZ | fail) only [goS, append_gt, append_gt_yes, plainEv, resultsEv, resultListEv, reduceIte, Nat.reduceEqDiff, goT, beq_self_eq_true, goH, goU, rs30, bld111, par_cells, bl, push_len, index_list, load_row, cell_one, List.cons_append, List.nil_append, List.append_nil, onceQ_normal, onceQ_panic, onceQ_exit, onceQ_ret, Nat.reduceAdd, Int.reduceAdd, Int.reduceLT, Int.toNat_one, Int.reduceToNat, f0, f1, f2, fl, put_push_eq, load28, fp111, pars, toks_len, toks_nil, ld28, st28, st3, st31, spl1, Nat.zero_add, Nat.add_zero, *] | (refine dX ?_ ?_ <;> (intro _; try (exfalso; omega))) | (refine dY ?_ ?_ <;> intro _) | fail)
     refine run_once ?_
     repeat' (first | simp (config := { maxSteps := 4000000 }) (disch := first | exact dZ | fail) only [goS, append_gt, append_gt_yes, plainEv, resultsEv, resultListEv, reduceIte, Nat.reduceEqDiff, goT, beq_self_eq_true, goH, goU, rs30, bld111, par_cells, bl, push_len, index_list, load_row, cell_one, List.cons_append, List.nil_append, List.append_nil, onceQ_normal, onceQ_panic, onceQ_exit, onceQ_ret, Nat.reduceAdd, Int.reduceAdd, Int.reduceLT, Int.toNat_one, Int.reduceToNat, f0, f1, f2, fl, put_push_eq, load28, fp111, pars, toks_len, toks_nil, ld28, st28, st3, st31, spl1, Nat.zero_add, Nat.add_zero, *] | (refine dX ?_ ?_ <;> (intro _; try (exfalso; omega))) | (refine dY ?_ ?_ <;> intro _) | fail)
     refine run_once ?_
     repeat' (first | simp (config := { maxSteps := 4000000 }) (disch := first | exact dZ | fail) only [goS, append_gt, append_gt_yes, plainEv, resultsEv, resultListEv, reduceIte, Nat.reduceEqDiff, goT, beq_self_eq_true, goH, goU, rs30, bld111, par_cells, bl, push_len, index_list, load_row, cell_one, List.cons_append, List.nil_append, List.append_nil, onceQ_normal, onceQ_panic, onceQ_exit, onceQ_ret, Nat.reduceAdd, Int.reduceAdd, Int.reduceLT, Int.toNat_one, Int.reduceToNat, f0, f1, f2, fl, put_push_eq, load28, fp111, pars, toks_len, toks_nil, ld28, st28, st3, st31, spl1, Nat.zero_add, Nat.add_zero, *] | (refine dX ?_ ?_ <;> (intro _; try (exfalso; omega))) | (refine dY ?_ ?_ <;> intro _) | fail)
     refine run_once ?_
     repeat' (first | simp (config := { maxSteps := 4000000 }) (disch := first | exact dZ | fail) only [goS, append_gt, append_gt_yes, plainEv, resultsEv, resultListEv, reduceIte, Nat.reduceEqDiff, goT, beq_self_eq_true, goH, goU, rs30, bld111, par_cells, bl, push_len, index_list, load_row, cell_one, List.cons_append, List.nil_append, List.append_nil, onceQ_normal, onceQ_panic, onceQ_exit, onceQ_ret, Nat.reduceAdd, Int.reduceAdd, Int.reduceLT, Int.toNat_one, Int.reduceToNat, f0, f1, f2, fl, put_push_eq, load28, fp111, pars, toks_len, toks_nil, ld28, st28, st3, st31, spl1, Nat.zero_add, Nat.add_zero, *] | (refine dX ?_ ?_ <;> (intro _; try (exfalso; omega))) | (refine dY ?_ ?_ <;> intro _) | fail)
     exact ⟨_, _, rfl, rfl, kfin.out⟩
end Go.Proofs.YtmdakolcndpjeaaGreatDoor
end

section
namespace Go.Proofs.YtmdakolcndpjeaaGreatDoor
open Go.AE Go.Lex Go.Pol Go.Syn
theorem rs14 : Tryz.f14.results.toList = [.cell 2 28, .tmp 3, .tmp 4] := by kernel_rfl
def parseF (src : List UInt8) : Po × Int × Int :=
 if (lexF src).2.2 = 0 then
  match wholeP ((lexF src).1.length + 1) (lexF src).1 with
  | .ok p _ => (p, 0, 0)
  | .bad r => (zP, failAt (src.length : Int) r, 190)
 else (zP, (lexF src).2.1, (lexF src).2.2)
def GivesT (R : Rec) (g : FuncId) (args : List AV) (h : Heap) (q : Po) (a e : Int) : Prop := ∃ t h', R.call g args h = some (.ret (.tuple [.agg (prow q t), .v (.int .i64 a), .v (.int .i64 e)]), h') ∧ Ext h h' ∧ POk q t
theorem parse_ev (src : List UInt8) (hs : src.length ≤ 9223372036854775807) (h : Heap) (ho : okHeap h = true) : GivesT W 14 [.v (.string (bs src))] h (parseF src).1 (parseF src).2.1 (parseF src).2.2 := by
 have z28 := zc28; have s28 := sz28; have a28 := ag28; have u9 := Tryz.underlying9
 suffices hh : ∃ r h', W.call 14 [.v (.string (bs src))] h = some (r, h') ∧ ∃ t, r = .ret (.tuple [.agg (prow (parseF src).1 t), .v (.int .i64 (parseF src).2.1), .v (.int .i64 (parseF src).2.2)]) ∧ Ext h h' ∧ POk (parseF src).1 t by
  obtain ⟨r, h', a, t, rfl, b, c⟩ := hh
  exact ⟨t, h', a, b, c⟩
 have c1 := lex_eq (src := src) (h := h.push (prow zP zT)) hs ho
 have x1 := lex_ext (src := src) (h := h.push (prow zP zT)) hs ho
 have o1 := lex_ok (src := src) (h := h.push (prow zP zT)) hs ho
 have z1 := lex_z (src := src) (h := h.push (prow zP zT)) hs ho
 have ln := lexF_len src
 have b1 := x1.box _ _ (push_last h (prow zP zT))
 obtain ⟨r2, h2, c2, q2⟩ := read_ev ((lexF src).1.length + 1) (lexTok src (h.push (prow zP zT))) (lexSz src (h.push (prow zP zT))) (lexF src).1 (src.length : Int) z1 (by omega) (by omega) (lexH src (h.push (prow zP zT))) o1
 have e0 : parseF src = if (lexF src).2.2 = 0 then (match wholeP ((lexF src).1.length + 1) (lexF src).1 with | .ok p _ => (p, 0, 0) | .bad r => (zP, failAt (src.length : Int) r, 190)) else (zP, (lexF src).2.1, (lexF src).2.2) := rfl
 unfold RdPost at q2
 generalize lexTok src (h.push (prow zP zT)) = tk at *
 generalize lexSz src (h.push (prow zP zT)) = sz at *
 generalize lexH src (h.push (prow zP zT)) = h1 at *
 have nb1 := (List.getElem?_eq_some_iff.1 b1).1
 rw [e0]
 cases he : decide ((lexF src).2.2 = 0) with
 | false =>
  have he' := of_decide_eq_false he
  rw [if_neg he']
  have kfin := Keep.mk (((Ext.push h _).trans x1).put_new (b := h.boxes.length) (Nat.le_refl _) (prow zP zT))
  clear x1 q2 c2 e0
  generalize (lexF src).2.2 = er at *
  generalize (lexF src).2.1 = at_ at *
  generalize (lexF src).1 = l at *
  refine call_post rfl Tryz.func14 rfl ?_
  repeat' (first | simp (config := { maxSteps := 4000000 }) (disch := first | exact dZ | fail) only [goS, append_gt, append_gt_yes, plainEv, resultsEv, resultListEv, reduceIte, Nat.reduceEqDiff, goT, beq_self_eq_true, goH, goU, rs14, bz28, st28, load28, *] | (refine dX ?_ ?_ <;> (intro _; try (exfalso; omega))) | (refine dY ?_ ?_ <;> intro _) | fail)
  exact ⟨_, _, rfl, _, rfl, kfin.out, zOk⟩
 | true =>
  have he' := of_decide_eq_true he
  rw [if_pos he']
  rw [he'] at c1
  generalize hl : (lexF src).1 = l at *
  cases w : wholeP (l.length + 1) l with
  | ok p r =>
   rw [w] at q2
   obtain ⟨t, rfl, hok, x2⟩ := q2
   have b2 := x2.box _ _ b1
   have nb2 := (List.getElem?_eq_some_iff.1 b2).1
   have kfin := Keep.mk ((((Ext.push h _).trans x1).trans x2).put_new (b := h.boxes.length) (Nat.le_refl _) (prow p t))
   have kok := Keep.mk hok
   clear x1 x2 hok e0 he he'
   refine call_post rfl Tryz.func14 rfl ?_
   repeat' (first | simp (config := { maxSteps := 4000000 }) (disch := first | exact dZ | fail) only [goS, append_gt, append_gt_yes, plainEv, resultsEv, resultListEv, reduceIte, Nat.reduceEqDiff, goT, beq_self_eq_true, goH, goU, rs14, bz28, st28, load28, *] | ((first | refine G_d ?_ ?_ | refine G_n ?_ ?_ | refine B_d ?_ ?_ | refine B_n ?_ ?_) <;> (intro _; try (exfalso; omega))) | refine run_draw (by kernel_rfl) ?_ | ((first | refine G_m ?_ ?_ | refine B_m ?_ ?_ | refine G_b ?_ ?_ | refine B_b ?_ ?_) <;> intro _))
   exact ⟨_, _, rfl, _, rfl, kfin.out, kok.out⟩
  | bad r =>
   rw [w] at q2
   obtain ⟨rfl, x2⟩ := q2
   have b2 := x2.box _ _ b1
   have nb2 := (List.getElem?_eq_some_iff.1 b2).1
   have kfin := Keep.mk ((((Ext.push h _).trans x1).trans x2).put_new (b := h.boxes.length) (Nat.le_refl _) (prow zP zT))
   clear x1 x2 e0 he he'
   refine call_post rfl Tryz.func14 rfl ?_
   repeat' (first | simp (config := { maxSteps := 4000000 }) (disch := first | exact dZ | fail) only [goS, append_gt, append_gt_yes, plainEv, resultsEv, resultListEv, reduceIte, Nat.reduceEqDiff, goT, beq_self_eq_true, goH, goU, rs14, bz28, st28, load28, *] | ((first | refine G_d ?_ ?_ | refine G_n ?_ ?_ | refine B_d ?_ ?_ | refine B_n ?_ ?_) <;> (intro _; try (exfalso; omega))) | refine run_draw (by kernel_rfl) ?_ | ((first | refine G_m ?_ ?_ | refine B_m ?_ ?_ | refine G_b ?_ ?_ | refine B_b ?_ ?_) <;> intro _))
   exact ⟨_, _, rfl, _, rfl, kfin.out, zOk⟩
end Go.Proofs.YtmdakolcndpjeaaGreatDoor
end
