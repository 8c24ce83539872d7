/-
 Part of the proof: SJ.
-/
import Derived.Test.YtmdakolcndpjeaaGreatDoorSD
import Derived.Test.YtmdakolcndpjeaaGreatDoorSB
import Derived.Test.YtmdakolcndpjeaaGreatDoorSI
import Derived.Test.YtmdakolcndpjeaaGreatDoorE4
set_option maxHeartbeats 64000000
set_option maxRecDepth 100000
set_option linter.unusedSimpArgs false
set_option linter.unusedVariables false
set_option linter.constructorNameAsVariable false
section
namespace Go.Proofs.YtmdakolcndpjeaaGreatDoor
open Go.AE Go.Lex Go.Pol
section
variable {k n no : Int} {s : List UInt8} {tok : Tok} {sz : Nat} {rows : List (List AV)}
theorem row5_1 : ((row5 k n no s tok sz rows).drop 1).head? = some (.v (.int .i64 n)) := rfl
theorem row5_2 : ((row5 k n no s tok sz rows).drop 2).head? = some (.v (.int .i64 no)) := rfl
theorem row5_3 : ((row5 k n no s tok sz rows).drop 3).head? = some (.v (.string (bs s))) := rfl
theorem row5_4 : ((row5 k n no s tok sz rows).drop 4).head? = some (.list tok sz rows) := rfl
end
theorem take5 {r : List AV} (h : r.length = 5) : (r.drop 0).take 5 = r := by rw [List.drop_zero, ← h, List.take_length]
end Go.Proofs.YtmdakolcndpjeaaGreatDoor
end

section
namespace Go.Proofs.YtmdakolcndpjeaaGreatDoor
open Go.AE Go.Lex Go.Pol
theorem res46 : Tryz.f36.results.toList = [.tmp 4] := by kernel_rfl
theorem sameE_ev : ∀ (x : Ex) (rx : List AV), Row x rx → ∀ (y : Ex) (ry : List AV), Row y ry → ∀ h, Says W 36 [.agg rx, .agg ry] h (.ret (.v (.bool (sameE x y)))) := by
 intro x
 induction x using Ex.ind with
 | h k n no s l ih =>
  intro rx hrx y ry hry h
  obtain ⟨k', n', no', s', l'⟩ := y
  obtain ⟨tok, sz, rows, rfl, hr1, hs1, hb1⟩ := Row.five hrx
  obtain ⟨tok', sz', rows', rfl, hr2, hs2, hb2⟩ := Row.five hry
  clear hrx hry
  have ux := Tryz.underlying24; have u9 := Tryz.underlying9
  have a3 := ag3; have a9 := ag9; have a24 := ag24; have a26 := ag26; have s26 := sz26
  have hlen1 := hr1.1
  have hlen2 := hr2.1
  simp only [Ex.kind, Ex.n, Ex.no, Ex.name, Ex.l] at hr1 hs1 hb1 hr2 hs2 hb2 hlen1 hlen2 ⊢
  have kr1 := Keep.mk hr1
  have kz1 := Keep.mk hs1
  have kr2 := Keep.mk hr2
  have kz2 := Keep.mk hs2
  have kih := Keep.mk ih
  clear hr1 hs1 hr2 hs2 ih
  have hq : ((rows.length : Int) = (rows'.length : Int)) = (l.length = l'.length) := by rw [hlen1, hlen2]; exact propext ⟨fun q => by omega, fun q => by omega⟩
  have kx0 := Keep.mk ((Ext.push h (row5 k n no s tok sz rows)).trans (.push _ (row5 k' n' no' s' tok' sz' rows')))
  refine call_ex rfl Tryz.func36 rfl ?_
  by_cases hall : k = k' ∧ n = n' ∧ no = no' ∧ s = s' ∧ l.length = l'.length
  ·obtain ⟨rfl, rfl, rfl, rfl, hll⟩ := hall
   have hle : rows.length = rows'.length := by omega
   have khq := Keep.mk hq
   clear hq
   repeat' (first | simp (config := { maxSteps := 4000000 }) (disch := first | exact dZ | fail) only [goS, append_gt, append_gt_yes, plainEv, resultsEv, resultListEv, reduceIte, Nat.reduceEqDiff, goT, beq_self_eq_true, goH, goU, res46, row5_cells, row5_0, row5_1, row5_2, row5_3, row5_4, fa26_0, fa26_1, fa26_2, fa26_3, fa26_4, len_push, *] | ((first | refine G_d ?_ ?_ | refine G_n ?_ ?_ | refine B_d ?_ ?_ | refine B_n ?_ ?_) <;> (intro _; try (exfalso; omega))) | refine run_draw (by kernel_rfl) ?_ | ((first | refine G_m ?_ ?_ | refine B_m ?_ ?_ | refine G_b ?_ ?_ | refine B_b ?_ ?_) <;> intro _))
   refine run_loop (fun m e h' => ∃ (i : Nat), i ≤ l.length ∧ m = l.length - i ∧ e.get 2 = .ptr (.box h.boxes.length) 0 ∧ e.get 3 = .ptr (.box (h.boxes.length + 1)) 0 ∧ e.get 5 = .v (.int .i64 i) ∧ e.defers = [] ∧ Ext h h' ∧
    h'.boxes[h.boxes.length]? = some (row5 k n no s tok sz rows) ∧ h'.boxes[h.boxes.length + 1]? = some (row5 k n no s tok' sz' rows') ∧ ∀ j, j < i → l[j]? = l'[j]?) ?_ l.length _ _ ?_
   ·rintro m e h' ⟨i, hi, rfl, g2, g3, g5, hd, hx, hb, hb', hno⟩
    have kx := Keep.mk hx
    have kno := Keep.mk hno
    clear hx hno
    by_cases hlt : i < l.length
    ·obtain ⟨y, r, hy, hr, hyr⟩ := kr1.out.get hlt
     obtain ⟨y', r', hy', hr', hyr'⟩ := kr2.out.get (show i < l'.length by omega)
     have h5 := kz1.out i hlt
     have h5' := kz2.out i (by omega)
     subst h5
     subst h5'
     have hlt3 : (i : Int) < (rows.length : Int) := by rw [hlen1]; omega
     have hlt4 : (i : Int) < (rows'.length : Int) := by rw [hlen2]; omega
     have ht5 := take5 hyr.len
     have ht5' := take5 hyr'.len
     have hle5 : 5 ≤ (r.drop 0).length := by rw [List.drop_zero, hyr.len]; exact Nat.le_refl _
     have hle5' : 5 ≤ (r'.drop 0).length := by rw [List.drop_zero, hyr'.len]; exact Nat.le_refl _
     obtain ⟨h2, hc, hx2⟩ := kih.out y (List.mem_of_getElem? hy) r hyr y' r' hyr' h'
     have kx2 := Keep.mk hx2
     have kb := Keep.mk hb
     have kb' := Keep.mk hb'
     clear hx2
     by_cases hs : sameE y y' = true
     ·have khs := Keep.mk hs
      rw [hs] at hc
      clear hs hle
      repeat' (first | simp (config := { maxSteps := 4000000 }) (disch := first | exact dZ | fail) only [goS, append_gt, append_gt_yes, plainEv, resultsEv, resultListEv, reduceIte, Nat.reduceEqDiff, goT, beq_self_eq_true, goH, goU, res46, row5_4, fa26_4, index_list, load_row_agg, *] | ((first | refine G_d ?_ ?_ | refine G_n ?_ ?_ | refine B_d ?_ ?_ | refine B_n ?_ ?_) <;> (intro _; try (exfalso; omega))) | refine run_draw (by kernel_rfl) ?_ | ((first | refine G_m ?_ ?_ | refine B_m ?_ ?_ | refine G_b ?_ ?_ | refine B_b ?_ ?_) <;> intro _))
      refine ⟨l.length - (i + 1), by omega, i + 1, by omega, by omega, (by first | trivial | (simp; done) | (simp; omega)), (by first | trivial | (simp; done) | (simp; omega)), (by first | trivial | (simp; done) | (simp; omega)), (by first | trivial | (simp; done) | (simp; omega)), kx.out.trans kx2.out, kx2.out.box _ _ kb.out, kx2.out.box _ _ kb'.out, fun j hj => ?_⟩
      rcases Nat.lt_or_ge j i with q | q
      ·exact kno.out j q
      ·have : j = i := by omega
       subst this
       rw [hy, hy', sameE_iff.1 khs.out]
     ·have hs : sameE y y' = false := by simpa using hs
      have khs := Keep.mk hs
      rw [hs] at hc
      clear hs hle
      repeat' (first | simp (config := { maxSteps := 4000000 }) (disch := first | exact dZ | fail) only [goS, append_gt, append_gt_yes, plainEv, resultsEv, resultListEv, reduceIte, Nat.reduceEqDiff, goT, beq_self_eq_true, goH, goU, res46, row5_4, fa26_4, index_list, load_row_agg, *] | ((first | refine G_d ?_ ?_ | refine G_n ?_ ?_ | refine B_d ?_ ?_ | refine B_n ?_ ?_) <;> (intro _; try (exfalso; omega))) | refine run_draw (by kernel_rfl) ?_ | ((first | refine G_m ?_ ?_ | refine B_m ?_ ?_ | refine G_b ?_ ?_ | refine B_b ?_ ?_) <;> intro _))
      refine answerX ?_ (kx.out.trans kx2.out)
      symm
      refine sameE_no ?_
      intro q
      injection q with _ _ _ _ q
      subst q
      rw [hy] at hy'
      injection hy' with hy'
      have := khs.out
      rw [hy', sameE_yes rfl] at this
      cases this
    ·have hie : i = l.length := by omega
     subst hie
     have hlt3 : ¬ ((l.length : Int) < (rows.length : Int)) := by rw [hlen1]; omega
     clear hle
     repeat' (first | simp (config := { maxSteps := 4000000 }) (disch := first | exact dZ | fail) only [goS, append_gt, append_gt_yes, plainEv, resultsEv, resultListEv, reduceIte, Nat.reduceEqDiff, goT, beq_self_eq_true, goH, goU, res46, row5_4, fa26_4, *] | ((first | refine G_d ?_ ?_ | refine G_n ?_ ?_ | refine B_d ?_ ?_ | refine B_n ?_ ?_) <;> (intro _; try (exfalso; omega))) | refine run_draw (by kernel_rfl) ?_ | ((first | refine G_m ?_ ?_ | refine B_m ?_ ?_ | refine G_b ?_ ?_ | refine B_b ?_ ?_) <;> intro _))
     refine answerX ?_ kx.out
     symm
     refine sameE_yes ?_
     have : l = l' := List.ext_getElem? fun j => by
      rcases Nat.lt_or_ge j l.length with q | q
      ·exact kno.out j q
      ·rw [List.getElem?_eq_none q, List.getElem?_eq_none (by omega)]
     rw [this]
   ·refine ⟨0, Nat.zero_le _, rfl, ?_, ?_, ?_, ?_, kx0.out, ?_, ?_, fun j hj => absurd hj (Nat.not_lt_zero j)⟩
    iterate 4
     ·simp only [goS, append_gt, append_gt_yes, plainEv, resultsEv, resultListEv, reduceIte, Nat.reduceEqDiff, goT, beq_self_eq_true, goH, len_push] <;> rfl
    ·simp (disch := (first | assumption | omega | (exact (push_len _ _).symm) | (simp only [lenH]; omega) | (refine Nat.le_antisymm ?_ ?_ <;> simp only [lenH] <;> omega) | fail)) only [getS]
    ·simp (disch := (first | assumption | omega | (exact (push_len _ _).symm) | (simp only [lenH]; omega) | (refine Nat.le_antisymm ?_ ?_ <;> simp only [lenH] <;> omega) | fail)) only [getS]
  ·have kall := Keep.mk hall
   have hno : ¬ (k = k' ∧ n = n' ∧ no = no' ∧ s = s' ∧ (rows.length : Int) = (rows'.length : Int)) := by rw [hq]; exact hall
   clear hall hq
   repeat' (first | simp (config := { maxSteps := 4000000 }) (disch := first | exact dZ | fail) only [goS, append_gt, append_gt_yes, plainEv, resultsEv, resultListEv, reduceIte, Nat.reduceEqDiff, goT, beq_self_eq_true, goH, goU, res46, row5_cells, row5_0, row5_1, row5_2, row5_3, row5_4, fa26_0, fa26_1, fa26_2, fa26_3, fa26_4, len_push, *] | ((first | refine G_d ?_ ?_ | refine G_n ?_ ?_ | refine B_d ?_ ?_ | refine B_n ?_ ?_) <;> (intro _; try (exfalso; omega))) | refine run_draw (by kernel_rfl) ?_ | ((first | refine G_m ?_ ?_ | refine B_m ?_ ?_ | refine G_b ?_ ?_ | refine B_b ?_ ?_) <;> intro _))
   all_goals first
    | (refine answerX ?_ ((Ext.push h _).trans (.push _ _)); symm; refine sameE_no ?_; intro q; rw [Ex.mk.injEq] at q; obtain ⟨q1, q2, q3, q4, q5⟩ := q; exact kall.out ⟨by first | exact q1 | assumption, by first | exact q2 | assumption, by first | exact q3 | assumption, by first | exact q4 | assumption, by rw [q5]⟩)
    | (exfalso; exact hno ⟨by assumption, by assumption, by assumption, by assumption, by first | assumption | omega⟩)
end Go.Proofs.YtmdakolcndpjeaaGreatDoor
end

section
namespace Go.Proofs.YtmdakolcndpjeaaGreatDoor
open Go.AE Go.Lex Go.Pol
theorem answer2 {b c : Bool} {h : Heap} (hb : b = c) : (some (Res.ret (AV.v (.bool b)), h) : Option (Res × Heap)) = some (.ret (.v (.bool c)), h) := by rw [hb]
theorem res45 : Tryz.f35.results.toList = [.tmp 4] := by kernel_rfl
theorem sameTexts_ev (k k' : Tok) (sz sz' : Nat) (a b : List (List UInt8)) (hz : ∀ i : Nat, i < a.length → sz = 1) (hz' : ∀ i : Nat, i < b.length → sz' = 1) (ha : a.length ≤ 9223372036854775807) (h : Heap) :
 W.call 35 [.list k sz (strs a), .list k' sz' (strs b)] h = some (.ret (.v (.bool (decide (a = b)))), h) := by
 have u9 := Tryz.underlying9; have u22 := Tryz.underlying22; have a9 := ag9; have s9 := sz9
 refine call_of_run rfl Tryz.func35 rfl ?_
 by_cases hab : a.length = b.length
 ·repeat' (first | (simp (config := { maxSteps := 4000000 }) (disch := first | assumption | omega | (simp only [lenL] <;> omega)) only [goS, append_gt, append_gt_yes, plainEv, resultsEv, resultListEv, reduceIte, Nat.reduceEqDiff, goT, beq_self_eq_true, res45, strs_len, *]; done) | simp (config := { maxSteps := 4000000 }) (disch := first | assumption | omega | (simp only [lenL]; omega)) only [goS, append_gt, append_gt_yes, plainEv, resultsEv, resultListEv, reduceIte, Nat.reduceEqDiff, goT, beq_self_eq_true, res45, strs_len, *] | ((first | refine G_d ?_ ?_ | refine G_n ?_ ?_ | refine B_d ?_ ?_ | refine B_n ?_ ?_) <;> (intro _; try (exfalso; omega))) | refine run_draw (by kernel_rfl) ?_ | ((first | refine G_m ?_ ?_ | refine B_m ?_ ?_ | refine G_b ?_ ?_ | refine B_b ?_ ?_) <;> intro _))
  refine run_loop (fun m e h' => ∃ i : Nat, i ≤ a.length ∧ m = a.length - i ∧ e.get 0 = .list k sz (strs a) ∧ e.get 1 = .list k' sz' (strs b) ∧ e.get 5 = .v (.int .i64 i) ∧ e.defers = [] ∧ h' = h ∧ ∀ j, j < i → a[j]? = b[j]?) ?_ a.length _ _ ?_
  ·rintro m e h' ⟨i, hi, rfl, g0, g1, g5, hd, rfl, hno⟩
   have kno := Keep.mk hno
   clear hno
   by_cases hlt : i < a.length
   ·obtain ⟨x, hx⟩ : ∃ t, a[i]? = some t := ⟨_, List.getElem?_eq_getElem hlt⟩
    obtain ⟨y, hy⟩ : ∃ t, b[i]? = some t := ⟨_, List.getElem?_eq_getElem (by omega)⟩
    obtain rfl := hz i hlt
    obtain rfl := hz' i (by omega)
    have hlt3 : (i : Int) < ((strs a).length : Int) := by rw [strs_len]; omega
    have hlt4 : (i : Int) < ((strs b).length : Int) := by rw [strs_len]; omega
    have kab := Keep.mk hab
    clear hab
    repeat' (first | (simp (config := { maxSteps := 4000000 }) (disch := first | assumption | omega | (simp only [lenL] <;> omega)) only [goS, append_gt, append_gt_yes, plainEv, resultsEv, resultListEv, reduceIte, Nat.reduceEqDiff, goT, beq_self_eq_true, res45, strs_len, strs_get, index_list, load_row, cell_one, *]; done) | simp (config := { maxSteps := 4000000 }) (disch := first | assumption | omega | (simp only [lenL]; omega)) only [goS, append_gt, append_gt_yes, plainEv, resultsEv, resultListEv, reduceIte, Nat.reduceEqDiff, goT, beq_self_eq_true, res45, strs_len, strs_get, index_list, load_row, cell_one, *] | ((first | refine G_d ?_ ?_ | refine G_n ?_ ?_ | refine B_d ?_ ?_ | refine B_n ?_ ?_) <;> (intro _; try (exfalso; omega))) | refine run_draw (by kernel_rfl) ?_ | ((first | refine G_m ?_ ?_ | refine B_m ?_ ?_ | refine G_b ?_ ?_ | refine B_b ?_ ?_) <;> intro _))
    ·rename_i hxy
     refine ⟨a.length - (i + 1), by omega, i + 1, by omega, rfl, (by first | trivial | (simp; done) | (simp; omega)), (by first | trivial | (simp; done) | (simp; omega)), (by first | trivial | (simp; done) | (simp; omega)), (by first | trivial | (simp; done) | (simp; omega)), (by first | trivial | (simp; done) | (simp; omega)), fun j hj => ?_⟩
     rcases Nat.lt_or_ge j i with q | q
     ·exact kno.out j q
     ·have : j = i := by omega
      subst this
      rw [hx, hy, hxy]
    ·rename_i hxy
     refine answer2 ?_
     symm
     rw [decide_eq_false_iff_not]
     rintro rfl
     rw [hx] at hy
     injection hy with hy
     exact hxy hy
   ·have hie : i = a.length := by omega
    have kab := Keep.mk hab
    have hge : ¬ ((i : Int) < (a.length : Int)) := by omega
    clear hab
    repeat' (first | (simp (config := { maxSteps := 4000000 }) (disch := first | assumption | omega | (simp only [lenL] <;> omega)) only [goS, append_gt, append_gt_yes, plainEv, resultsEv, resultListEv, reduceIte, Nat.reduceEqDiff, goT, beq_self_eq_true, res45, strs_len, *]; done) | simp (config := { maxSteps := 4000000 }) (disch := first | assumption | omega | (simp only [lenL]; omega)) only [goS, append_gt, append_gt_yes, plainEv, resultsEv, resultListEv, reduceIte, Nat.reduceEqDiff, goT, beq_self_eq_true, res45, strs_len, *] | ((first | refine G_d ?_ ?_ | refine G_n ?_ ?_ | refine B_d ?_ ?_ | refine B_n ?_ ?_) <;> (intro _; try (exfalso; omega))) | refine run_draw (by kernel_rfl) ?_ | ((first | refine G_m ?_ ?_ | refine B_m ?_ ?_ | refine G_b ?_ ?_ | refine B_b ?_ ?_) <;> intro _))
    refine answer2 ?_
    symm
    rw [decide_eq_true_eq]
    refine List.ext_getElem? fun j => ?_
    have := kab.out
    rcases Nat.lt_or_ge j a.length with q | q
    ·exact kno.out j (by omega)
    ·rw [List.getElem?_eq_none q, List.getElem?_eq_none (by omega)]
  ·refine ⟨0, Nat.zero_le _, rfl, ?_, ?_, ?_, ?_, rfl, fun j hj => absurd hj (Nat.not_lt_zero j)⟩ <;> simp only [goS, append_gt, append_gt_yes, plainEv, resultsEv, resultListEv, reduceIte, Nat.reduceEqDiff, goT, beq_self_eq_true] <;> rfl
 ·repeat' (first | (simp (config := { maxSteps := 4000000 }) (disch := first | assumption | omega | (simp only [lenL] <;> omega)) only [goS, append_gt, append_gt_yes, plainEv, resultsEv, resultListEv, reduceIte, Nat.reduceEqDiff, goT, beq_self_eq_true, res45, strs_len, *]; done) | simp (config := { maxSteps := 4000000 }) (disch := first | assumption | omega | (simp only [lenL]; omega)) only [goS, append_gt, append_gt_yes, plainEv, resultsEv, resultListEv, reduceIte, Nat.reduceEqDiff, goT, beq_self_eq_true, res45, strs_len, *] | ((first | refine G_d ?_ ?_ | refine G_n ?_ ?_ | refine B_d ?_ ?_ | refine B_n ?_ ?_) <;> (intro _; try (exfalso; omega))) | refine run_draw (by kernel_rfl) ?_ | ((first | refine G_m ?_ ?_ | refine B_m ?_ ?_ | refine G_b ?_ ?_ | refine B_b ?_ ?_) <;> intro _))
  refine answer2 ?_
  symm
  rw [decide_eq_false_iff_not]
  rintro rfl
  exact hab rfl
end Go.Proofs.YtmdakolcndpjeaaGreatDoor
end

section
namespace Go.Proofs.YtmdakolcndpjeaaGreatDoor
open Go.AE Go.Lex Go.Pol
theorem RRows.get {l : List Rl} {rr : List (List AV)} (h : RRows l rr) {i : Nat} (hi : i < l.length) : ∃ x tok sz rows, l[i]? = some x ∧ rr[i]? = some (rrow x tok sz rows) ∧ Row x.expr (r5 x tok sz rows) := by
 have hr : i < rr.length := by rw [h.1]; exact hi
 have h1 := h.2 i _ _ (List.getElem?_eq_getElem hi) (List.getElem?_eq_getElem hr)
 obtain ⟨tok, sz, rows, he, hrow⟩ := RRow.inv h1
 exact ⟨l[i], tok, sz, rows, List.getElem?_eq_getElem hi, by rw [List.getElem?_eq_getElem hr, he], hrow⟩
theorem answerY {b c : Bool} {h : Heap} {Post : Heap → Prop} (hb : b = c) (hp : Post h) : ∃ h', (some (Res.ret (AV.v (.bool b)), h) : Option (Res × Heap)) = some (.ret (.v (.bool c)), h') ∧ Post h' := ⟨h, by rw [hb], hp⟩
noncomputable def sameP (p q : Po) : Bool := @decide (p = q) (Classical.propDecidable _)
theorem sameP_iff {p q : Po} : sameP p q = true ↔ p = q := by unfold sameP; exact @decide_eq_true_iff _ (Classical.propDecidable _)
theorem sameP_no {p q : Po} (h : p ≠ q) : sameP p q = false := by
 rw [Bool.eq_false_iff]
 exact fun e => h (sameP_iff.1 e)
theorem rl_ext {x y : Rl} (h1 : x.kind = y.kind) (h2 : x.kindNo = y.kindNo) (h3 : x.think = y.think) (h4 : x.expr = y.expr) : x = y := by cases x; cases y; simp_all
theorem po_ext {p q : Po} (h1 : p.name = q.name) (h2 : p.mode = q.mode) (h3 : p.offices = q.offices) (h4 : p.kinds = q.kinds) (h5 : p.rules = q.rules) (h6 : p.change = q.change) : p = q := by cases p; cases q; simp_all
theorem res13 : Tryz.f15.results.toList = [.tmp 4] := by kernel_rfl
theorem same_ev (p q : Po) (t u : PT) (ok : POk p t) (ok2 : POk q u) (h : Heap) : Says W 15 [.agg (prow p t), .agg (prow q u)] h (.ret (.v (.bool (sameP p q)))) := by
 have u9 := Tryz.underlying9; have u23 := Tryz.underlying23
 have a3 := ag3; have a9 := ag9; have a22 := ag22; have a23 := ag23; have a24 := ag24; have a26 := ag26; have a28 := ag28; have a43 := ag62; have s26 := sz26; have s28 := sz28; have s43 := sz62; have z43 := zc62
 have hlen := ok.rules.1
 have hlen2 := ok2.rules.1
 have kok := Keep.mk ok
 have kok2 := Keep.mk ok2
 have kx0 := Keep.mk ((Ext.push h (prow p t)).trans (.push _ (prow q u)))
 have c1 := sameTexts_ev t.to u.to t.so u.so p.offices q.offices ok.zo ok2.zo ok.bo ((h.push (prow p t)).push (prow q u))
 have c2 := sameTexts_ev t.tk u.tk t.sk u.sk p.kinds q.kinds ok.zk ok2.zk ok.bk ((h.push (prow p t)).push (prow q u))
 obtain ⟨h2, c3, hx2⟩ := sameE_ev p.change _ ok.expr q.change _ ok2.expr ((h.push (prow p t)).push (prow q u))
 have k2 := Keep.mk (kx0.out.trans hx2)
 have b1 := hx2.box h.boxes.length (prow p t) (push_old (push_last h _))
 have b2 := hx2.box (h.boxes.length + 1) (prow q u) (by have := push_last (h.push (prow p t)) (prow q u); rw [push_len] at this; exact this)
 clear hx2
 have hll : ((t.rr.length : Int) = (u.rr.length : Int)) = (p.rules.length = q.rules.length) := by rw [hlen, hlen2]; exact propext ⟨fun e => by omega, fun e => by omega⟩
 refine call_ex rfl Tryz.func15 rfl ?_
 by_cases hgood : p.name = q.name ∧ p.mode = q.mode ∧ p.offices = q.offices ∧ p.kinds = q.kinds ∧ p.rules.length = q.rules.length ∧ p.change = q.change
 ·have kg := Keep.mk hgood
  have d1 : decide (p.name = q.name) = true := decide_eq_true hgood.1
  have d2 : decide (p.mode = q.mode) = true := decide_eq_true hgood.2.1
  have d3 : decide (p.offices = q.offices) = true := decide_eq_true hgood.2.2.1
  have d4 : decide (p.kinds = q.kinds) = true := decide_eq_true hgood.2.2.2.1
  have d5 : decide ((t.rr.length : Int) = (u.rr.length : Int)) = true := decide_eq_true (by rw [hll]; exact hgood.2.2.2.2.1)
  have d5' : decide ((p.rules.length : Int) = (q.rules.length : Int)) = true := decide_eq_true (by have := hgood.2.2.2.2.1; omega)
  have d6 : sameE p.change q.change = true := sameE_iff.2 hgood.2.2.2.2.2
  clear hgood hll
  rw [d3] at c1
  rw [d4] at c2
  rw [d6] at c3
  repeat' (first | simp (config := { maxSteps := 4000000 }) (disch := first | exact dZ | fail) only [goS, append_gt, append_gt_yes, plainEv, resultsEv, resultListEv, reduceIte, Nat.reduceEqDiff, goT, beq_self_eq_true, goH, goU, res13, fp28, fp62, prs, rrs, strs_len, load28, load28_4, push_len, *] | (refine dX ?_ ?_ <;> (intro _; try (exfalso; omega))) | (refine dY ?_ ?_ <;> intro _) | fail)
  refine run_loop (fun m e h' => ∃ (i : Nat), i ≤ p.rules.length ∧ m = p.rules.length - i ∧ e.get 2 = .ptr (.box h.boxes.length) 0 ∧ e.get 3 = .ptr (.box (h.boxes.length + 1)) 0 ∧ e.get 5 = .v (.int .i64 i) ∧ e.defers = [] ∧ Ext h h' ∧ h'.boxes[h.boxes.length]? = some (prow p t) ∧ h'.boxes[h.boxes.length + 1]? = some (prow q u) ∧ ∀ j, j < i → p.rules[j]? = q.rules[j]?) ?_ p.rules.length _ _ ?_
  ·rintro m e h' ⟨i, hi, rfl, g2, g3, g5, hd, hx, hb1, hb2, hno⟩
   have kx := Keep.mk hx
   have kno := Keep.mk hno
   clear hx hno c1 c2 c3 b1 b2 d1 d2 d3 d4 d5 d5' d6
   have n1 := (List.getElem?_eq_some_iff.1 hb1).1
   have n2 := (List.getElem?_eq_some_iff.1 hb2).1
   by_cases hlt : i < p.rules.length
   ·obtain ⟨y, tok, sz, rows, hy, hr, hyr⟩ := RRows.get kok.out.rules hlt
    obtain ⟨z, tok', sz', rows', hz, hr', hzr⟩ := RRows.get kok2.out.rules (show i < q.rules.length by have := kg.out.2.2.2.2.1; omega)
    have h8 := kok.out.zr i hlt
    have h8' := kok2.out.zr i (show i < q.rules.length by have := kg.out.2.2.2.2.1; omega)
    have hlt3 : (i : Int) < (t.rr.length : Int) := by rw [hlen]; omega
    have hlt4 : (i : Int) < (u.rr.length : Int) := by rw [hlen2]; have := kg.out.2.2.2.2.1; omega
    have rf8 := @rrow_fit8 y tok sz rows
    have rf8' := @rrow_fit8 z tok' sz' rows'
    have hbr := kok.out.br
    obtain ⟨h4, c4, hx4⟩ := sameE_ev y.expr _ hyr z.expr _ hzr ((h'.push (rrow y tok sz rows)).push (rrow z tok' sz' rows'))
    have kx4 := Keep.mk (((Ext.push h' (rrow y tok sz rows)).trans (.push _ (rrow z tok' sz' rows'))).trans hx4)
    have kx5 := Keep.mk ((Ext.push h' (rrow y tok sz rows)).trans (.push _ (rrow z tok' sz' rows')))
    have kb1 := Keep.mk hb1
    have kb2 := Keep.mk hb2
    clear hx4
    by_cases hgd : y.kind = z.kind ∧ y.kindNo = z.kindNo ∧ y.think = z.think ∧ y.expr = z.expr
    ·have kgd := Keep.mk hgd
     have d1 : decide (y.kind = z.kind) = true := decide_eq_true hgd.1
     have d2 : decide (y.kindNo = z.kindNo) = true := decide_eq_true hgd.2.1
     have d3 : decide (y.think = z.think) = true := decide_eq_true hgd.2.2.1
     have d4 : sameE y.expr z.expr = true := sameE_iff.2 hgd.2.2.2
     rw [d4] at c4
     clear hgd
     repeat' (first | simp (config := { maxSteps := 4000000 }) (disch := first | exact dZ | fail) only [goS, append_gt, append_gt_yes, plainEv, resultsEv, resultListEv, reduceIte, Nat.reduceEqDiff, goT, beq_self_eq_true, goH, goU, res13, fp28, fp62, prs, rrs, load62, load62_3, store62, index_list, load_row_agg, push_len, put_push_eq, put_push_ne, *] | (refine dX ?_ ?_ <;> (intro _; try (exfalso; omega))) | (refine dY ?_ ?_ <;> intro _) | fail)
     refine ⟨p.rules.length - (i + 1), by omega, i + 1, by omega, rfl, (by first | trivial | (simp; done) | (simp; omega)), (by first | trivial | (simp; done) | (simp; omega)), (by first | trivial | (simp; done) | (simp; omega)), (by first | trivial | (simp; done) | (simp; omega)), kx.out.trans kx4.out, kx4.out.box _ _ kb1.out, kx4.out.box _ _ kb2.out, fun j hj => ?_⟩
     rcases Nat.lt_or_ge j i with w | w
     ·exact kno.out j w
     ·have : j = i := by omega
      subst this
      rw [hy, hz, rl_ext kgd.out.1 kgd.out.2.1 kgd.out.2.2.1 kgd.out.2.2.2]
    ·have kgd := Keep.mk hgd
     have hne : p ≠ q := by
      intro e
      subst e
      rw [hy] at hz
      injection hz with hz
      subst hz
      exact hgd ⟨rfl, rfl, rfl, rfl⟩
     have kne := Keep.mk hne
     clear hgd hne
     repeat' (first | simp (config := { maxSteps := 4000000 }) (disch := first | exact dZ | fail) only [goS, append_gt, append_gt_yes, plainEv, resultsEv, resultListEv, reduceIte, Nat.reduceEqDiff, goT, beq_self_eq_true, goH, goU, res13, fp28, fp62, prs, rrs, load62, load62_3, store62, index_list, load_row_agg, push_len, put_push_eq, put_push_ne, *] | (refine dX ?_ ?_ <;> (intro _; try (exfalso; omega))) | (refine dY ?_ ?_ <;> intro _) | fail)
     all_goals first
      | (refine answerY (sameP_no kne.out).symm ?_; first | exact kx.out.trans kx4.out | exact kx.out.trans kx5.out)
      | (exfalso; refine kgd.out ⟨?_, ?_, ?_, ?_⟩ <;> first | assumption | (refine sameE_iff.1 ?_; assumption))
   ·have hie : i = p.rules.length := by omega
    subst hie
    have hlt3 : ¬ ((p.rules.length : Int) < (t.rr.length : Int)) := by rw [hlen]; omega
    repeat' (first | simp (config := { maxSteps := 4000000 }) (disch := first | exact dZ | fail) only [goS, append_gt, append_gt_yes, plainEv, resultsEv, resultListEv, reduceIte, Nat.reduceEqDiff, goT, beq_self_eq_true, goH, goU, res13, fp28, fp62, prs, *] | (refine dX ?_ ?_ <;> (intro _; try (exfalso; omega))) | (refine dY ?_ ?_ <;> intro _) | fail)
    refine answerY ?_ kx.out
    symm
    refine sameP_iff.2 (po_ext kg.out.1 kg.out.2.1 kg.out.2.2.1 kg.out.2.2.2.1 ?_ kg.out.2.2.2.2.2)
    refine List.ext_getElem? fun j => ?_
    rcases Nat.lt_or_ge j p.rules.length with w | w
    ·exact kno.out j w
    ·rw [List.getElem?_eq_none w, List.getElem?_eq_none (by have := kg.out.2.2.2.2.1; omega)]
  ·refine ⟨0, Nat.zero_le _, rfl, ?_, ?_, ?_, ?_, k2.out, b1, b2, fun j hj => absurd hj (Nat.not_lt_zero j)⟩ <;> simp only [goS, append_gt, append_gt_yes, plainEv, resultsEv, resultListEv, reduceIte, Nat.reduceEqDiff, goT, beq_self_eq_true, goH, push_len] <;> rfl
 ·have hne : p ≠ q := fun e => hgood (by subst e; exact ⟨rfl, rfl, rfl, rfl, rfl, rfl⟩)
  have kne := Keep.mk hne
  have kbad := Keep.mk hgood
  have khll := Keep.mk hll
  clear hgood hne hll
  repeat' (first | simp (config := { maxSteps := 4000000 }) (disch := first | exact dZ | fail) only [goS, append_gt, append_gt_yes, plainEv, resultsEv, resultListEv, reduceIte, Nat.reduceEqDiff, goT, beq_self_eq_true, goH, goU, res13, fp28, fp62, prs, rrs, strs_len, load28, load28_4, push_len, *] | (refine dX ?_ ?_ <;> (intro _; try (exfalso; omega))) | (refine dY ?_ ?_ <;> intro _) | fail)
  all_goals first
   | (refine answerY (sameP_no kne.out).symm ?_; first | exact k2.out | exact kx0.out)
   | (exfalso; refine kbad.out ⟨?_, ?_, ?_, ?_, ?_, ?_⟩ <;> first | assumption | (refine sameE_iff.1 ?_; assumption) | omega | (rw [← khll.out]; assumption) | simp_all)
end Go.Proofs.YtmdakolcndpjeaaGreatDoor
end

section
namespace Go.Proofs.YtmdakolcndpjeaaGreatDoor
open Go.AE Go.Lex Go.Pol Go.Syn
noncomputable def sameLs {α : Type} (a b : List α) : Bool := @decide (a = b) (Classical.propDecidable _)
theorem sameLs_iff {α : Type} {a b : List α} : sameLs a b = true ↔ a = b := by unfold sameLs; exact @decide_eq_true_iff _ (Classical.propDecidable _)
theorem sameLs_no {α : Type} {a b : List α} (h : a ≠ b) : sameLs a b = false := by
 rw [Bool.eq_false_iff]
 exact fun e => h (sameLs_iff.1 e)
theorem sameLs_yes {α : Type} {a b : List α} (h : a = b) : sameLs a b = true := sameLs_iff.2 h
theorem rs133 : Tryz.f133.results.toList = [.tmp 6] := by kernel_rfl
theorem rs83 : Tryz.f83.results.toList = [.tmp 6] := by kernel_rfl
theorem rs81 : Tryz.f81.results.toList = [.tmp 4] := by kernel_rfl
theorem rs82 : Tryz.f82.results.toList = [.tmp 4] := by kernel_rfl
theorem rs80 : Tryz.f80.results.toList = [.tmp 4] := by kernel_rfl
theorem rs31 : Tryz.f31.results.toList = [.tmp 4] := by kernel_rfl
theorem eqfE_ev (l l' : List Ex) (tok tok' : Tok) (sz sz' : Nat) (rows rows' : List (List AV)) (hr1 : Pol.Rows l rows) (hs1 : ∀ i : Nat, i < l.length → sz = 5) (hb1 : l.length ≤ 9223372036854775807) (hr2 : Pol.Rows l' rows') (hs2 : ∀ i : Nat, i < l'.length → sz' = 5)
 (hf : ∀ y ∈ l, ∀ (r : List AV), Row y r → ∀ (y' : Ex) (r' : List AV), Row y' r' → ∀ h, Says W 81 [.agg r, .agg r'] h (.ret (.v (.bool (sameE y y'))))) (h : Heap) :
 Says W 133 [.list tok sz rows, .list tok' sz' rows', .func (.func 81) [] []] h (.ret (.v (.bool (sameLs l l')))) := by
 have ux := Tryz.underlying24
 have a3 := ag3; have a24 := ag24; have a26 := ag26; have s26 := sz26; have z26 := zc26
 have hlen1 := hr1.1
 have hlen2 := hr2.1
 have kr1 := Keep.mk hr1
 have kz1 := Keep.mk hs1
 have kr2 := Keep.mk hr2
 have kz2 := Keep.mk hs2
 have kf := Keep.mk hf
 clear hr1 hs1 hr2 hs2 hf
 refine call_ex rfl Tryz.func133 rfl ?_
 by_cases hll : l.length = l'.length
 ·have hrr : (rows.length : Int) = (rows'.length : Int) := by omega
  have hdd : decide ((rows.length : Int) = (rows'.length : Int)) = true := decide_eq_true hrr
  have kll := Keep.mk hll
  clear hrr
  repeat' (first | simp (config := { maxSteps := 4000000 }) (disch := first | exact dZ | fail) only [goS, append_gt, append_gt_yes, plainEv, resultsEv, resultListEv, reduceIte, Nat.reduceEqDiff, goT, beq_self_eq_true, goH, goU, rs133, hlen1, *] | (refine dX ?_ ?_ <;> (intro _; try (exfalso; omega))) | (refine dY ?_ ?_ <;> intro _) | fail)
  refine run_loop (fun m e h' => ∃ (i : Nat), i ≤ l.length ∧ m = l.length - i ∧ e.get 1 = .list tok' sz' rows' ∧ e.get 2 = .func (.func 81) [] [] ∧ e.get 15 = .list tok sz rows ∧ e.get 16 = .v (.int .i64 (l.length : Nat)) ∧ e.get 17 = .v (.int .i64 i) ∧ e.defers = [] ∧ Ext h h' ∧ ∀ j, j < i → l[j]? = l'[j]?) ?_ l.length _ _ ?_
  ·rintro m e h' ⟨i, hi, rfl, g1, g2, g15, g16, g17, hd, hx, hno⟩
   have kx := Keep.mk hx
   have kno := Keep.mk hno
   clear hx hno
   by_cases hlt : i < l.length
   ·obtain ⟨y, r, hy, hr, hyr⟩ := kr1.out.get hlt
    obtain ⟨y', r', hy', hr', hyr'⟩ := kr2.out.get (show i < l'.length by omega)
    have h5 := kz1.out i hlt
    have h5' := kz2.out i (by omega)
    subst h5
    subst h5'
    obtain ⟨tky, szy, rowsy, rfl, -⟩ := Row.five hyr
    obtain ⟨tky', szy', rowsy', rfl, -⟩ := Row.five hyr'
    have hlt3 : (i : Int) < (rows.length : Int) := by rw [hlen1]; omega
    have hlt4 : (i : Int) < (rows'.length : Int) := by rw [hlen2]; omega
    have hlt5 : (i : Int) < (l.length : Int) := by omega
    have hle5 : 5 ≤ ((row5 y.kind y.n y.no y.name tky szy rowsy).drop 0).length := by rw [List.drop_zero]; exact Nat.le_refl _
    have hle5' : 5 ≤ ((row5 y'.kind y'.n y'.no y'.name tky' szy' rowsy').drop 0).length := by rw [List.drop_zero]; exact Nat.le_refl _
    obtain ⟨h2, hc, hx2⟩ := kf.out y (List.mem_of_getElem? hy) _ hyr y' _ hyr' ((h'.push (row5 y.kind y.n y.no y.name tky szy rowsy)).push (row5 y'.kind y'.n y'.no y'.name tky' szy' rowsy'))
    have kx2 := Keep.mk ((kx.out.trans ((Ext.push h' (row5 y.kind y.n y.no y.name tky szy rowsy)).trans (.push _ (row5 y'.kind y'.n y'.no y'.name tky' szy' rowsy')))).trans hx2)
    have p1 : ((h'.push (row5 y.kind y.n y.no y.name tky szy rowsy)).push (row5 y'.kind y'.n y'.no y'.name tky' szy' rowsy')).boxes[h'.boxes.length]? = some (row5 y.kind y.n y.no y.name tky szy rowsy) := push_old (push_last _ _)
    have p2 : ((h'.push (row5 y.kind y.n y.no y.name tky szy rowsy)).push (row5 y'.kind y'.n y'.no y'.name tky' szy' rowsy')).boxes[h'.boxes.length + 1]? = some (row5 y'.kind y'.n y'.no y'.name tky' szy' rowsy') := by
     have := push_last (h'.push (row5 y.kind y.n y.no y.name tky szy rowsy)) (row5 y'.kind y'.n y'.no y'.name tky' szy' rowsy')
     rw [push_len] at this
     exact this
    clear hx2
    cases hs : sameE y y' with
    | true =>
     have khs := Keep.mk hs
     rw [hs] at hc
     clear hs hdd hll
     repeat' (first | simp (config := { maxSteps := 4000000 }) (disch := first | exact dZ | fail) only [goS, append_gt, append_gt_yes, plainEv, resultsEv, resultListEv, reduceIte, Nat.reduceEqDiff, goT, beq_self_eq_true, goH, goU, rs133, q5_all, push_len, st26, ld26, put_push_eq, index_list, load_row_agg, *] | (refine dX ?_ ?_ <;> (intro _; try (exfalso; omega))) | (refine dY ?_ ?_ <;> intro _) | fail)
     refine ⟨l.length - (i + 1), by omega, i + 1, by omega, rfl, (by first | trivial | (simp; done) | (simp; omega)), (by first | trivial | (simp; done) | (simp; omega)), (by first | trivial | (simp; done) | (simp; omega)), (by first | trivial | (simp; done) | (simp; omega)), (by first | trivial | (simp; done) | (simp; omega)), (by first | trivial | (simp; done) | (simp; omega)), kx2.out, fun j hj => ?_⟩
     rcases Nat.lt_or_ge j i with q | q
     ·exact kno.out j q
     ·have : j = i := by omega
      subst this
      rw [hy, hy', sameE_iff.1 khs.out]
    | false =>
     have khs := Keep.mk hs
     rw [hs] at hc
     clear hs hdd hll
     repeat' (first | simp (config := { maxSteps := 4000000 }) (disch := first | exact dZ | fail) only [goS, append_gt, append_gt_yes, plainEv, resultsEv, resultListEv, reduceIte, Nat.reduceEqDiff, goT, beq_self_eq_true, goH, goU, rs133, q5_all, push_len, st26, ld26, put_push_eq, index_list, load_row_agg, *] | (refine dX ?_ ?_ <;> (intro _; try (exfalso; omega))) | (refine dY ?_ ?_ <;> intro _) | fail)
     refine answerX ?_ kx2.out
     symm
     refine sameLs_no ?_
     intro q
     subst q
     rw [hy] at hy'
     injection hy' with hy'
     have := khs.out
     rw [hy', sameE_yes rfl] at this
     cases this
   ·have hie : i = l.length := by omega
    subst hie
    have hlt3 : ¬ ((l.length : Int) < (l.length : Int)) := by omega
    clear hdd hll
    repeat' (first | simp (config := { maxSteps := 4000000 }) (disch := first | exact dZ | fail) only [goS, append_gt, append_gt_yes, plainEv, resultsEv, resultListEv, reduceIte, Nat.reduceEqDiff, goT, beq_self_eq_true, goH, goU, rs133, *] | (refine dX ?_ ?_ <;> (intro _; try (exfalso; omega))) | (refine dY ?_ ?_ <;> intro _) | fail)
    refine answerX ?_ kx.out
    symm
    refine sameLs_yes (List.ext_getElem? fun j => ?_)
    have := kll.out
    rcases Nat.lt_or_ge j l.length with q | q
    ·exact kno.out j q
    ·rw [List.getElem?_eq_none q, List.getElem?_eq_none (by omega)]
  ·refine ⟨0, Nat.zero_le _, rfl, ?_, ?_, ?_, ?_, ?_, ?_, .refl _, fun j hj => absurd hj (Nat.not_lt_zero j)⟩ <;> simp only [goS, append_gt, append_gt_yes, plainEv, resultsEv, resultListEv, reduceIte, Nat.reduceEqDiff, goT, beq_self_eq_true, goH, hlen1, hll] <;> rfl
 ·have hrr : ¬ ((rows.length : Int) = (rows'.length : Int)) := by omega
  have hrr2 : ¬ ((l.length : Int) = (l'.length : Int)) := by omega
  have kll := Keep.mk hll
  clear hll
  repeat' (first | simp (config := { maxSteps := 4000000 }) (disch := first | exact dZ | fail) only [goS, append_gt, append_gt_yes, plainEv, resultsEv, resultListEv, reduceIte, Nat.reduceEqDiff, goT, beq_self_eq_true, goH, goU, rs133, *] | (refine dX ?_ ?_ <;> (intro _; try (exfalso; omega))) | (refine dY ?_ ?_ <;> intro _) | fail)
  refine answerX ?_ (Ext.refl h)
  symm
  refine sameLs_no fun q => kll.out ?_
  rw [q]
theorem sameX_ev : ∀ (x : Ex) (rx : List AV), Row x rx → ∀ (y : Ex) (ry : List AV), Row y ry → ∀ h, Says W 81 [.agg rx, .agg ry] h (.ret (.v (.bool (sameE x y)))) := by
 intro x
 induction x using Ex.ind with
 | h k n no s l ih =>
  intro rx hrx y ry hry h
  obtain ⟨k', n', no', s', l'⟩ := y
  obtain ⟨tok, sz, rows, rfl, hr1, hs1, hb1⟩ := Row.five hrx
  obtain ⟨tok', sz', rows', rfl, hr2, hs2, hb2⟩ := Row.five hry
  clear hrx hry
  have u9 := Tryz.underlying9
  have a3 := ag3; have a9 := ag9; have a24 := ag24; have a26 := ag26; have s26 := sz26
  simp only [Ex.kind, Ex.n, Ex.no, Ex.name, Ex.l] at hr1 hs1 hb1 hr2 hs2 hb2 ⊢
  obtain ⟨h2, hc, hx2⟩ := eqfE_ev l l' tok tok' sz sz' rows rows' hr1 hs1 hb1 hr2 hs2 ih ((h.push (row5 k n no s tok sz rows)).push (row5 k' n' no' s' tok' sz' rows'))
  have kx0 := Keep.mk ((Ext.push h (row5 k n no s tok sz rows)).trans (.push _ (row5 k' n' no' s' tok' sz' rows')))
  have kx2 := Keep.mk (kx0.out.trans hx2)
  clear hr1 hs1 hb1 hr2 hs2 hb2 ih hx2
  refine call_ex rfl Tryz.func81 rfl ?_
  by_cases hn : k = k'
  rotate_left 1
  ·repeat' (first | simp (config := { maxSteps := 4000000 }) (disch := first | exact dZ | fail) only [goS, append_gt, append_gt_yes, plainEv, resultsEv, resultListEv, reduceIte, Nat.reduceEqDiff, goT, beq_self_eq_true, goH, goU, rs81, row5_cells, row5_0, row5_1, row5_2, row5_3, row5_4, fa26_0, fa26_1, fa26_2, fa26_3, fa26_4, len_push, *] | (refine dX ?_ ?_ <;> (intro _; try (exfalso; omega))) | (refine dY ?_ ?_ <;> intro _) | fail)
   exact answerX (sameE_no (fun q => by injection q with q1 q2 q3 q4 _; exact hn q1)).symm kx0.out
  subst hn
  by_cases hn : n = n'
  rotate_left 1
  ·repeat' (first | simp (config := { maxSteps := 4000000 }) (disch := first | exact dZ | fail) only [goS, append_gt, append_gt_yes, plainEv, resultsEv, resultListEv, reduceIte, Nat.reduceEqDiff, goT, beq_self_eq_true, goH, goU, rs81, row5_cells, row5_0, row5_1, row5_2, row5_3, row5_4, fa26_0, fa26_1, fa26_2, fa26_3, fa26_4, len_push, *] | (refine dX ?_ ?_ <;> (intro _; try (exfalso; omega))) | (refine dY ?_ ?_ <;> intro _) | fail)
   exact answerX (sameE_no (fun q => by injection q with q1 q2 q3 q4 _; exact hn q2)).symm kx0.out
  subst hn
  by_cases hn : no = no'
  rotate_left 1
  ·repeat' (first | simp (config := { maxSteps := 4000000 }) (disch := first | exact dZ | fail) only [goS, append_gt, append_gt_yes, plainEv, resultsEv, resultListEv, reduceIte, Nat.reduceEqDiff, goT, beq_self_eq_true, goH, goU, rs81, row5_cells, row5_0, row5_1, row5_2, row5_3, row5_4, fa26_0, fa26_1, fa26_2, fa26_3, fa26_4, len_push, *] | (refine dX ?_ ?_ <;> (intro _; try (exfalso; omega))) | (refine dY ?_ ?_ <;> intro _) | fail)
   exact answerX (sameE_no (fun q => by injection q with q1 q2 q3 q4 _; exact hn q3)).symm kx0.out
  subst hn
  by_cases hn : s = s'
  rotate_left 1
  ·repeat' (first | simp (config := { maxSteps := 4000000 }) (disch := first | exact dZ | fail) only [goS, append_gt, append_gt_yes, plainEv, resultsEv, resultListEv, reduceIte, Nat.reduceEqDiff, goT, beq_self_eq_true, goH, goU, rs81, row5_cells, row5_0, row5_1, row5_2, row5_3, row5_4, fa26_0, fa26_1, fa26_2, fa26_3, fa26_4, len_push, *] | (refine dX ?_ ?_ <;> (intro _; try (exfalso; omega))) | (refine dY ?_ ?_ <;> intro _) | fail)
   exact answerX (sameE_no (fun q => by injection q with q1 q2 q3 q4 _; exact hn q4)).symm kx0.out
  subst hn
  repeat' (first | simp (config := { maxSteps := 4000000 }) (disch := first | exact dZ | fail) only [goS, append_gt, append_gt_yes, plainEv, resultsEv, resultListEv, reduceIte, Nat.reduceEqDiff, goT, beq_self_eq_true, goH, goU, rs81, row5_cells, row5_0, row5_1, row5_2, row5_3, row5_4, fa26_0, fa26_1, fa26_2, fa26_3, fa26_4, len_push, *] | (refine dX ?_ ?_ <;> (intro _; try (exfalso; omega))) | (refine dY ?_ ?_ <;> intro _) | fail)
  refine answerX ?_ kx2.out
  by_cases hl : l = l'
  ·subst hl
   rw [sameLs_yes rfl, sameE_yes rfl]
  ·rw [sameLs_no hl, sameE_no]
   intro q
   injection q with _ _ _ _ q
   exact hl q
end Go.Proofs.YtmdakolcndpjeaaGreatDoor
end

section
namespace Go.Proofs.YtmdakolcndpjeaaGreatDoor
open Go.AE Go.Lex Go.Pol Go.Syn
theorem eqS_ev (k k' : Tok) (sz sz' : Nat) (a b : List (List UInt8)) (hz : ∀ i : Nat, i < a.length → sz = 1) (hz' : ∀ i : Nat, i < b.length → sz' = 1) (ha : a.length ≤ 9223372036854775807) (h : Heap) :
 W.call 82 [.list k sz (strs a), .list k' sz' (strs b)] h = some (.ret (.v (.bool (decide (a = b)))), h) := by
 have u9 := Tryz.underlying9; have u22 := Tryz.underlying22; have a9 := ag9; have s9 := sz9
 refine call_of_run rfl Tryz.func82 rfl ?_
 by_cases hab : a.length = b.length
 ·have kab := Keep.mk hab
  repeat' (first | (simp (config := { maxSteps := 4000000 }) (disch := first | assumption | omega | (simp only [lenL] <;> omega)) only [goS, append_gt, append_gt_yes, plainEv, resultsEv, resultListEv, reduceIte, Nat.reduceEqDiff, goT, beq_self_eq_true, rs82, strs_len, *]; done) | simp (config := { maxSteps := 4000000 }) (disch := first | assumption | omega | (simp only [lenL]; omega)) only [goS, append_gt, append_gt_yes, plainEv, resultsEv, resultListEv, reduceIte, Nat.reduceEqDiff, goT, beq_self_eq_true, rs82, strs_len, *] | ((first | refine G_d ?_ ?_ | refine G_n ?_ ?_ | refine B_d ?_ ?_ | refine B_n ?_ ?_) <;> (intro _; try (exfalso; omega))) | refine run_draw (by kernel_rfl) ?_ | ((first | refine G_m ?_ ?_ | refine B_m ?_ ?_ | refine G_b ?_ ?_ | refine B_b ?_ ?_) <;> intro _))
  refine run_loop (fun m e h' => ∃ i : Nat, i ≤ a.length ∧ m = a.length - i ∧ e.get 0 = .list k sz (strs a) ∧ e.get 1 = .list k' sz' (strs b) ∧ e.get 12 = .v (.int .i64 (a.length : Nat)) ∧ e.get 13 = .v (.int .i64 i) ∧ e.defers = [] ∧ h' = h ∧ ∀ j, j < i → a[j]? = b[j]?) ?_ a.length _ _ ?_
  ·rintro m e h' ⟨i, hi, rfl, g0, g1, g12, g13, hd, rfl, hno⟩
   have kno := Keep.mk hno
   clear hno
   by_cases hlt : i < a.length
   ·obtain ⟨x, hx⟩ : ∃ t, a[i]? = some t := ⟨_, List.getElem?_eq_getElem hlt⟩
    obtain ⟨y, hy⟩ : ∃ t, b[i]? = some t := ⟨_, List.getElem?_eq_getElem (by omega)⟩
    obtain rfl := hz i hlt
    obtain rfl := hz' i (by omega)
    have hlt3 : (i : Int) < ((strs a).length : Int) := by rw [strs_len]; omega
    have hlt4 : (i : Int) < ((strs b).length : Int) := by rw [strs_len]; omega
    have hlt5 : (i : Int) < (a.length : Int) := by omega
    have hlt6 : (i : Int) < (b.length : Int) := by omega
    clear hab
    repeat' (first | (simp (config := { maxSteps := 4000000 }) (disch := first | assumption | omega | (simp only [lenL] <;> omega)) only [goS, append_gt, append_gt_yes, plainEv, resultsEv, resultListEv, reduceIte, Nat.reduceEqDiff, goT, beq_self_eq_true, rs82, strs_len, strs_get, index_list, load_row, cell_one, *]; done) | simp (config := { maxSteps := 4000000 }) (disch := first | assumption | omega | (simp only [lenL]; omega)) only [goS, append_gt, append_gt_yes, plainEv, resultsEv, resultListEv, reduceIte, Nat.reduceEqDiff, goT, beq_self_eq_true, rs82, strs_len, strs_get, index_list, load_row, cell_one, *] | ((first | refine G_d ?_ ?_ | refine G_n ?_ ?_ | refine B_d ?_ ?_ | refine B_n ?_ ?_) <;> (intro _; try (exfalso; omega))) | refine run_draw (by kernel_rfl) ?_ | ((first | refine G_m ?_ ?_ | refine B_m ?_ ?_ | refine G_b ?_ ?_ | refine B_b ?_ ?_) <;> intro _))
    ·rename_i hxy
     refine ⟨a.length - (i + 1), by omega, i + 1, by omega, rfl, (by first | trivial | (simp; done) | (simp; omega)), (by first | trivial | (simp; done) | (simp; omega)), (by first | trivial | (simp; done) | (simp; omega)), (by first | trivial | (simp; done) | (simp; omega)), (by first | trivial | (simp; done) | (simp; omega)), (by first | trivial | (simp; done) | (simp; omega)), fun j hj => ?_⟩
     rcases Nat.lt_or_ge j i with q | q
     ·exact kno.out j q
     ·have : j = i := by omega
      subst this
      rw [hx, hy, hxy]
    ·rename_i hxy
     refine answer2 ?_
     symm
     rw [decide_eq_false_iff_not]
     rintro rfl
     rw [hx] at hy
     injection hy with hy
     exact hxy hy
   ·have hie : i = a.length := by omega
    have hge : ¬ ((i : Int) < (a.length : Int)) := by omega
    clear hab
    repeat' (first | (simp (config := { maxSteps := 4000000 }) (disch := first | assumption | omega | (simp only [lenL] <;> omega)) only [goS, append_gt, append_gt_yes, plainEv, resultsEv, resultListEv, reduceIte, Nat.reduceEqDiff, goT, beq_self_eq_true, rs82, strs_len, *]; done) | simp (config := { maxSteps := 4000000 }) (disch := first | assumption | omega | (simp only [lenL]; omega)) only [goS, append_gt, append_gt_yes, plainEv, resultsEv, resultListEv, reduceIte, Nat.reduceEqDiff, goT, beq_self_eq_true, rs82, strs_len, *] | ((first | refine G_d ?_ ?_ | refine G_n ?_ ?_ | refine B_d ?_ ?_ | refine B_n ?_ ?_) <;> (intro _; try (exfalso; omega))) | refine run_draw (by kernel_rfl) ?_ | ((first | refine G_m ?_ ?_ | refine B_m ?_ ?_ | refine G_b ?_ ?_ | refine B_b ?_ ?_) <;> intro _))
    refine answer2 ?_
    symm
    rw [decide_eq_true_eq]
    refine List.ext_getElem? fun j => ?_
    have := kab.out
    rcases Nat.lt_or_ge j a.length with q | q
    ·exact kno.out j (by omega)
    ·rw [List.getElem?_eq_none q, List.getElem?_eq_none (by omega)]
  ·refine ⟨0, Nat.zero_le _, rfl, ?_, ?_, ?_, ?_, ?_, rfl, fun j hj => absurd hj (Nat.not_lt_zero j)⟩ <;> simp only [goS, append_gt, append_gt_yes, plainEv, resultsEv, resultListEv, reduceIte, Nat.reduceEqDiff, goT, beq_self_eq_true, strs_len] <;> (first | rfl | rw [hab])
 ·repeat' (first | (simp (config := { maxSteps := 4000000 }) (disch := first | assumption | omega | (simp only [lenL] <;> omega)) only [goS, append_gt, append_gt_yes, plainEv, resultsEv, resultListEv, reduceIte, Nat.reduceEqDiff, goT, beq_self_eq_true, rs82, strs_len, *]; done) | simp (config := { maxSteps := 4000000 }) (disch := first | assumption | omega | (simp only [lenL]; omega)) only [goS, append_gt, append_gt_yes, plainEv, resultsEv, resultListEv, reduceIte, Nat.reduceEqDiff, goT, beq_self_eq_true, rs82, strs_len, *] | ((first | refine G_d ?_ ?_ | refine G_n ?_ ?_ | refine B_d ?_ ?_ | refine B_n ?_ ?_) <;> (intro _; try (exfalso; omega))) | refine run_draw (by kernel_rfl) ?_ | ((first | refine G_m ?_ ?_ | refine B_m ?_ ?_ | refine G_b ?_ ?_ | refine B_b ?_ ?_) <;> intro _))
  refine answer2 ?_
  symm
  rw [decide_eq_false_iff_not]
  rintro rfl
  exact hab rfl
theorem sameR_ev (x : Rl) (tok : Tok) (sz : Nat) (rows : List (List AV)) (hx : Row x.expr (r5 x tok sz rows)) (y : Rl) (tok' : Tok) (sz' : Nat) (rows' : List (List AV)) (hy : Row y.expr (r5 y tok' sz' rows')) (h : Heap) :
 Says W 80 [.agg (rrow x tok sz rows), .agg (rrow y tok' sz' rows')] h (.ret (.v (.bool (sameLs [x] [y])))) := by
 have u9 := Tryz.underlying9
 have a3 := ag3; have a9 := ag9; have a26 := ag26; have s26 := sz26; have a62 := ag62; have s62 := sz62
 obtain ⟨h2, hc, hx2⟩ := sameX_ev x.expr _ hx y.expr _ hy ((h.push (rrow x tok sz rows)).push (rrow y tok' sz' rows'))
 have kx0 := Keep.mk ((Ext.push h (rrow x tok sz rows)).trans (.push _ (rrow y tok' sz' rows')))
 have kx2 := Keep.mk (kx0.out.trans hx2)
 have p1 : ((h.push (rrow x tok sz rows)).push (rrow y tok' sz' rows')).boxes[h.boxes.length]? = some (rrow x tok sz rows) := push_old (push_last _ _)
 have p2 : ((h.push (rrow x tok sz rows)).push (rrow y tok' sz' rows')).boxes[h.boxes.length + 1]? = some (rrow y tok' sz' rows') := by
  have := push_last (h.push (rrow x tok sz rows)) (rrow y tok' sz' rows')
  rw [push_len] at this
  exact this
 have l1 := load62_3 p1
 have l2 := load62_3 p2
 clear hx hy hx2
 obtain ⟨k, no, th, ex⟩ := x
 obtain ⟨k', no', th', ex'⟩ := y
 refine call_ex rfl Tryz.func80 rfl ?_
 by_cases hn : k = k'
 rotate_left 1
 ·repeat' (first | simp (config := { maxSteps := 4000000 }) (disch := first | exact dZ | fail) only [goS, append_gt, append_gt_yes, plainEv, resultsEv, resultListEv, reduceIte, Nat.reduceEqDiff, goT, beq_self_eq_true, goH, goU, rs80, fp62, rrs, push_len, *] | (refine dX ?_ ?_ <;> (intro _; try (exfalso; omega))) | (refine dY ?_ ?_ <;> intro _) | fail)
  exact answerX (sameLs_no (fun q => by injection q with q _; injection q with q1 q2 q3 _; exact hn q1)).symm kx0.out
 subst hn
 by_cases hn : no = no'
 rotate_left 1
 ·repeat' (first | simp (config := { maxSteps := 4000000 }) (disch := first | exact dZ | fail) only [goS, append_gt, append_gt_yes, plainEv, resultsEv, resultListEv, reduceIte, Nat.reduceEqDiff, goT, beq_self_eq_true, goH, goU, rs80, fp62, rrs, push_len, *] | (refine dX ?_ ?_ <;> (intro _; try (exfalso; omega))) | (refine dY ?_ ?_ <;> intro _) | fail)
  exact answerX (sameLs_no (fun q => by injection q with q _; injection q with q1 q2 q3 _; exact hn q2)).symm kx0.out
 subst hn
 by_cases hn : th = th'
 rotate_left 1
 ·repeat' (first | simp (config := { maxSteps := 4000000 }) (disch := first | exact dZ | fail) only [goS, append_gt, append_gt_yes, plainEv, resultsEv, resultListEv, reduceIte, Nat.reduceEqDiff, goT, beq_self_eq_true, goH, goU, rs80, fp62, rrs, push_len, *] | (refine dX ?_ ?_ <;> (intro _; try (exfalso; omega))) | (refine dY ?_ ?_ <;> intro _) | fail)
  exact answerX (sameLs_no (fun q => by injection q with q _; injection q with q1 q2 q3 _; exact hn q3)).symm kx0.out
 subst hn
 repeat' (first | simp (config := { maxSteps := 4000000 }) (disch := first | exact dZ | fail) only [goS, append_gt, append_gt_yes, plainEv, resultsEv, resultListEv, reduceIte, Nat.reduceEqDiff, goT, beq_self_eq_true, goH, goU, rs80, fp62, rrs, push_len, *] | (refine dX ?_ ?_ <;> (intro _; try (exfalso; omega))) | (refine dY ?_ ?_ <;> intro _) | fail)
 refine answerX ?_ kx2.out
 by_cases hl : ex = ex'
 ·subst hl
  rw [sameLs_yes rfl, sameE_yes rfl]
 ·rw [sameLs_no, sameE_no hl]
  intro q
  injection q with q _
  injection q with _ _ _ q
  exact hl q
end Go.Proofs.YtmdakolcndpjeaaGreatDoor
end

section
namespace Go.Proofs.YtmdakolcndpjeaaGreatDoor
open Go.AE Go.Lex Go.Pol Go.Syn
theorem eqfR_ev (l l' : List Rl) (tok tok' : Tok) (sz sz' : Nat) (rows rows' : List (List AV)) (hr1 : RRows l rows) (hs1 : ∀ i : Nat, i < l.length → sz = 8) (hb1 : l.length ≤ 9223372036854775807) (hr2 : RRows l' rows') (hs2 : ∀ i : Nat, i < l'.length → sz' = 8)
 (h : Heap) :
 Says W 83 [.list tok sz rows, .list tok' sz' rows', .func (.func 80) [] []] h (.ret (.v (.bool (sameLs l l')))) := by
 have ux := Tryz.underlying23
 have a3 := ag3; have a23 := ag23; have a62 := ag62; have s62 := sz62; have z62 := zc62
 have hlen1 := hr1.1
 have hlen2 := hr2.1
 have kr1 := Keep.mk hr1
 have kz1 := Keep.mk hs1
 have kr2 := Keep.mk hr2
 have kz2 := Keep.mk hs2
 clear hr1 hs1 hr2 hs2
 refine call_ex rfl Tryz.func83 rfl ?_
 by_cases hll : l.length = l'.length
 ·have hrr : (rows.length : Int) = (rows'.length : Int) := by omega
  have hdd : decide ((rows.length : Int) = (rows'.length : Int)) = true := decide_eq_true hrr
  have kll := Keep.mk hll
  clear hrr
  repeat' (first | simp (config := { maxSteps := 4000000 }) (disch := first | exact dZ | fail) only [goS, append_gt, append_gt_yes, plainEv, resultsEv, resultListEv, reduceIte, Nat.reduceEqDiff, goT, beq_self_eq_true, goH, goU, rs83, hlen1, *] | (refine dX ?_ ?_ <;> (intro _; try (exfalso; omega))) | (refine dY ?_ ?_ <;> intro _) | fail)
  refine run_loop (fun m e h' => ∃ (i : Nat), i ≤ l.length ∧ m = l.length - i ∧ e.get 1 = .list tok' sz' rows' ∧ e.get 2 = .func (.func 80) [] [] ∧ e.get 15 = .list tok sz rows ∧ e.get 16 = .v (.int .i64 (l.length : Nat)) ∧ e.get 17 = .v (.int .i64 i) ∧ e.defers = [] ∧ Ext h h' ∧ ∀ j, j < i → l[j]? = l'[j]?) ?_ l.length _ _ ?_
  ·rintro m e h' ⟨i, hi, rfl, g1, g2, g15, g16, g17, hd, hx, hno⟩
   have kx := Keep.mk hx
   have kno := Keep.mk hno
   clear hx hno
   by_cases hlt : i < l.length
   ·obtain ⟨y, tky, szy, rowsy, hy, hr, hyr⟩ := RRows.get kr1.out hlt
    obtain ⟨y', tky', szy', rowsy', hy', hr', hyr'⟩ := RRows.get kr2.out (show i < l'.length by omega)
    have h5 := kz1.out i hlt
    have h5' := kz2.out i (by omega)
    subst h5
    subst h5'
    have hlt3 : (i : Int) < (rows.length : Int) := by rw [hlen1]; omega
    have hlt4 : (i : Int) < (rows'.length : Int) := by rw [hlen2]; omega
    have hlt5 : (i : Int) < (l.length : Int) := by omega
    have hle5 : 8 ≤ ((rrow y tky szy rowsy).drop 0).length := by rw [List.drop_zero]; exact Nat.le_refl _
    have hle5' : 8 ≤ ((rrow y' tky' szy' rowsy').drop 0).length := by rw [List.drop_zero]; exact Nat.le_refl _
    obtain ⟨h2, hc, hx2⟩ := sameR_ev y tky szy rowsy hyr y' tky' szy' rowsy' hyr' ((h'.push (rrow y tky szy rowsy)).push (rrow y' tky' szy' rowsy'))
    have kx2 := Keep.mk ((kx.out.trans ((Ext.push h' (rrow y tky szy rowsy)).trans (.push _ (rrow y' tky' szy' rowsy')))).trans hx2)
    have p1 : ((h'.push (rrow y tky szy rowsy)).push (rrow y' tky' szy' rowsy')).boxes[h'.boxes.length]? = some (rrow y tky szy rowsy) := push_old (push_last _ _)
    have p2 : ((h'.push (rrow y tky szy rowsy)).push (rrow y' tky' szy' rowsy')).boxes[h'.boxes.length + 1]? = some (rrow y' tky' szy' rowsy') := by
     have := push_last (h'.push (rrow y tky szy rowsy)) (rrow y' tky' szy' rowsy')
     rw [push_len] at this
     exact this
    clear hx2
    cases hs : sameLs [y] [y'] with
    | true =>
     have khs := Keep.mk hs
     rw [hs] at hc
     clear hs hdd hll
     repeat' (first | simp (config := { maxSteps := 4000000 }) (disch := first | exact dZ | fail) only [goS, append_gt, append_gt_yes, plainEv, resultsEv, resultListEv, reduceIte, Nat.reduceEqDiff, goT, beq_self_eq_true, goH, goU, rs83, q62_all, push_len, st62, ld62, put_push_eq, index_list, load_row_agg, *] | (refine dX ?_ ?_ <;> (intro _; try (exfalso; omega))) | (refine dY ?_ ?_ <;> intro _) | fail)
     refine ⟨l.length - (i + 1), by omega, i + 1, by omega, rfl, (by first | trivial | (simp; done) | (simp; omega)), (by first | trivial | (simp; done) | (simp; omega)), (by first | trivial | (simp; done) | (simp; omega)), (by first | trivial | (simp; done) | (simp; omega)), (by first | trivial | (simp; done) | (simp; omega)), (by first | trivial | (simp; done) | (simp; omega)), kx2.out, fun j hj => ?_⟩
     rcases Nat.lt_or_ge j i with q | q
     ·exact kno.out j q
     ·have : j = i := by omega
      subst this
      rw [hy, hy', (List.cons.inj (sameLs_iff.1 khs.out)).1]
    | false =>
     have khs := Keep.mk hs
     rw [hs] at hc
     clear hs hdd hll
     repeat' (first | simp (config := { maxSteps := 4000000 }) (disch := first | exact dZ | fail) only [goS, append_gt, append_gt_yes, plainEv, resultsEv, resultListEv, reduceIte, Nat.reduceEqDiff, goT, beq_self_eq_true, goH, goU, rs83, q62_all, push_len, st62, ld62, put_push_eq, index_list, load_row_agg, *] | (refine dX ?_ ?_ <;> (intro _; try (exfalso; omega))) | (refine dY ?_ ?_ <;> intro _) | fail)
     refine answerX ?_ kx2.out
     symm
     refine sameLs_no ?_
     intro q
     subst q
     rw [hy] at hy'
     injection hy' with hy'
     have := khs.out
     rw [hy', sameLs_yes rfl] at this
     cases this
   ·have hie : i = l.length := by omega
    subst hie
    have hlt3 : ¬ ((l.length : Int) < (l.length : Int)) := by omega
    clear hdd hll
    repeat' (first | simp (config := { maxSteps := 4000000 }) (disch := first | exact dZ | fail) only [goS, append_gt, append_gt_yes, plainEv, resultsEv, resultListEv, reduceIte, Nat.reduceEqDiff, goT, beq_self_eq_true, goH, goU, rs83, *] | (refine dX ?_ ?_ <;> (intro _; try (exfalso; omega))) | (refine dY ?_ ?_ <;> intro _) | fail)
    refine answerX ?_ kx.out
    symm
    refine sameLs_yes (List.ext_getElem? fun j => ?_)
    have := kll.out
    rcases Nat.lt_or_ge j l.length with q | q
    ·exact kno.out j q
    ·rw [List.getElem?_eq_none q, List.getElem?_eq_none (by omega)]
  ·refine ⟨0, Nat.zero_le _, rfl, ?_, ?_, ?_, ?_, ?_, ?_, .refl _, fun j hj => absurd hj (Nat.not_lt_zero j)⟩ <;> simp only [goS, append_gt, append_gt_yes, plainEv, resultsEv, resultListEv, reduceIte, Nat.reduceEqDiff, goT, beq_self_eq_true, goH, hlen1, hll] <;> rfl
 ·have hrr : ¬ ((rows.length : Int) = (rows'.length : Int)) := by omega
  have hrr2 : ¬ ((l.length : Int) = (l'.length : Int)) := by omega
  have kll := Keep.mk hll
  clear hll
  repeat' (first | simp (config := { maxSteps := 4000000 }) (disch := first | exact dZ | fail) only [goS, append_gt, append_gt_yes, plainEv, resultsEv, resultListEv, reduceIte, Nat.reduceEqDiff, goT, beq_self_eq_true, goH, goU, rs83, *] | (refine dX ?_ ?_ <;> (intro _; try (exfalso; omega))) | (refine dY ?_ ?_ <;> intro _) | fail)
  refine answerX ?_ (Ext.refl h)
  symm
  refine sameLs_no fun q => kll.out ?_
  rw [q]
theorem sameO_ev (p q : Po) (t u : PT) (ok : POk p t) (ok2 : POk q u) (h : Heap) : Says W 31 [.agg (prow p t), .agg (prow q u)] h (.ret (.v (.bool (sameP p q)))) := by
 have u9 := Tryz.underlying9; have u23 := Tryz.underlying23
 have a3 := ag3; have a9 := ag9; have a22 := ag22; have a23 := ag23; have a26 := ag26; have s26 := sz26; have a28 := ag28; have s28 := sz28
 have c1 := eqS_ev t.to u.to t.so u.so p.offices q.offices ok.zo ok2.zo ok.bo ((h.push (prow p t)).push (prow q u))
 have c2 := eqS_ev t.tk u.tk t.sk u.sk p.kinds q.kinds ok.zk ok2.zk ok.bk ((h.push (prow p t)).push (prow q u))
 obtain ⟨h2, c3, hx2⟩ := eqfR_ev p.rules q.rules t.tr u.tr t.sr u.sr t.rr u.rr ok.rules ok.zr ok.br ok2.rules ok2.zr ((h.push (prow p t)).push (prow q u))
 obtain ⟨h3, c4, hx3⟩ := sameX_ev p.change _ ok.expr q.change _ ok2.expr h2
 have kx0 := Keep.mk ((Ext.push h (prow p t)).trans (.push _ (prow q u)))
 have kx2 := Keep.mk (kx0.out.trans hx2)
 have kx3 := Keep.mk (kx2.out.trans hx3)
 have p1 : ((h.push (prow p t)).push (prow q u)).boxes[h.boxes.length]? = some (prow p t) := push_old (push_last _ _)
 have p2 : ((h.push (prow p t)).push (prow q u)).boxes[h.boxes.length + 1]? = some (prow q u) := by
  have := push_last (h.push (prow p t)) (prow q u)
  rw [push_len] at this
  exact this
 have p3 := hx2.box _ _ p1
 have p4 := hx2.box _ _ p2
 have l1 := load28_4 p3
 have l2 := load28_4 p4
 have kno : Keep (∀ (_ : p = q), p.name = q.name ∧ p.mode = q.mode ∧ p.offices = q.offices ∧ p.kinds = q.kinds ∧ p.rules = q.rules ∧ p.change = q.change) := .mk (fun e => by subst e; exact ⟨rfl, rfl, rfl, rfl, rfl, rfl⟩)
 have kyes : Keep (p.name = q.name → p.mode = q.mode → p.offices = q.offices → p.kinds = q.kinds → p.rules = q.rules → p.change = q.change → sameP p q = true) := .mk (fun a b c d e f => sameP_iff.2 (po_ext a b c d e f))
 clear ok ok2 hx2 hx3
 refine call_ex rfl Tryz.func31 rfl ?_
 by_cases hn : p.name = q.name
 rotate_left 1
 ·have d1 : decide (p.name = q.name) = false := decide_eq_false hn
  have kn := Keep.mk hn
  clear hn
  repeat' (first | simp (config := { maxSteps := 4000000 }) (disch := first | exact dZ | fail) only [goS, append_gt, append_gt_yes, plainEv, resultsEv, resultListEv, reduceIte, Nat.reduceEqDiff, goT, beq_self_eq_true, goH, goU, rs31, fp28, prs, push_len, *] | (refine dX ?_ ?_ <;> (intro _; try (exfalso; omega))) | (refine dY ?_ ?_ <;> intro _) | fail)
  exact answerX (sameP_no (fun e => kn.out (kno.out e).1)).symm kx0.out
 have d1 : decide (p.name = q.name) = true := decide_eq_true hn
 have k1 := Keep.mk hn
 clear hn
 by_cases hn : p.mode = q.mode
 rotate_left 1
 ·have d2 : decide (p.mode = q.mode) = false := decide_eq_false hn
  have kn := Keep.mk hn
  clear hn
  repeat' (first | simp (config := { maxSteps := 4000000 }) (disch := first | exact dZ | fail) only [goS, append_gt, append_gt_yes, plainEv, resultsEv, resultListEv, reduceIte, Nat.reduceEqDiff, goT, beq_self_eq_true, goH, goU, rs31, fp28, prs, push_len, *] | (refine dX ?_ ?_ <;> (intro _; try (exfalso; omega))) | (refine dY ?_ ?_ <;> intro _) | fail)
  exact answerX (sameP_no (fun e => kn.out (kno.out e).2.1)).symm kx0.out
 have d2 : decide (p.mode = q.mode) = true := decide_eq_true hn
 have k2 := Keep.mk hn
 clear hn
 by_cases hn : p.offices = q.offices
 rotate_left 1
 ·rw [decide_eq_false hn] at c1
  have kn := Keep.mk hn
  clear hn
  repeat' (first | simp (config := { maxSteps := 4000000 }) (disch := first | exact dZ | fail) only [goS, append_gt, append_gt_yes, plainEv, resultsEv, resultListEv, reduceIte, Nat.reduceEqDiff, goT, beq_self_eq_true, goH, goU, rs31, fp28, prs, push_len, *] | (refine dX ?_ ?_ <;> (intro _; try (exfalso; omega))) | (refine dY ?_ ?_ <;> intro _) | fail)
  exact answerX (sameP_no (fun e => kn.out (kno.out e).2.2.1)).symm kx0.out
 rw [decide_eq_true hn] at c1
 have k3 := Keep.mk hn
 clear hn
 by_cases hn : p.kinds = q.kinds
 rotate_left 1
 ·rw [decide_eq_false hn] at c2
  have kn := Keep.mk hn
  clear hn
  repeat' (first | simp (config := { maxSteps := 4000000 }) (disch := first | exact dZ | fail) only [goS, append_gt, append_gt_yes, plainEv, resultsEv, resultListEv, reduceIte, Nat.reduceEqDiff, goT, beq_self_eq_true, goH, goU, rs31, fp28, prs, push_len, *] | (refine dX ?_ ?_ <;> (intro _; try (exfalso; omega))) | (refine dY ?_ ?_ <;> intro _) | fail)
  exact answerX (sameP_no (fun e => kn.out (kno.out e).2.2.2.1)).symm kx0.out
 rw [decide_eq_true hn] at c2
 have k4 := Keep.mk hn
 clear hn
 by_cases hn : p.rules = q.rules
 rotate_left 1
 ·rw [sameLs_no hn] at c3
  have kn := Keep.mk hn
  clear hn
  repeat' (first | simp (config := { maxSteps := 4000000 }) (disch := first | exact dZ | fail) only [goS, append_gt, append_gt_yes, plainEv, resultsEv, resultListEv, reduceIte, Nat.reduceEqDiff, goT, beq_self_eq_true, goH, goU, rs31, fp28, prs, push_len, *] | (refine dX ?_ ?_ <;> (intro _; try (exfalso; omega))) | (refine dY ?_ ?_ <;> intro _) | fail)
  exact answerX (sameP_no (fun e => kn.out (kno.out e).2.2.2.2.1)).symm kx2.out
 rw [sameLs_yes hn] at c3
 have k5 := Keep.mk hn
 clear hn
 by_cases hn : p.change = q.change
 rotate_left 1
 ·rw [sameE_no hn] at c4
  have kn := Keep.mk hn
  clear hn
  repeat' (first | simp (config := { maxSteps := 4000000 }) (disch := first | exact dZ | fail) only [goS, append_gt, append_gt_yes, plainEv, resultsEv, resultListEv, reduceIte, Nat.reduceEqDiff, goT, beq_self_eq_true, goH, goU, rs31, fp28, prs, push_len, *] | (refine dX ?_ ?_ <;> (intro _; try (exfalso; omega))) | (refine dY ?_ ?_ <;> intro _) | fail)
  exact answerX (sameP_no (fun e => kn.out (kno.out e).2.2.2.2.2)).symm kx3.out
 rw [sameE_yes hn] at c4
 have k6 := Keep.mk hn
 clear hn
 repeat' (first | simp (config := { maxSteps := 4000000 }) (disch := first | exact dZ | fail) only [goS, append_gt, append_gt_yes, plainEv, resultsEv, resultListEv, reduceIte, Nat.reduceEqDiff, goT, beq_self_eq_true, goH, goU, rs31, fp28, prs, push_len, *] | (refine dX ?_ ?_ <;> (intro _; try (exfalso; omega))) | (refine dY ?_ ?_ <;> intro _) | fail)
 exact answerX (kyes.out k1.out k2.out k3.out k4.out k5.out k6.out).symm kx3.out
end Go.Proofs.YtmdakolcndpjeaaGreatDoor
end
