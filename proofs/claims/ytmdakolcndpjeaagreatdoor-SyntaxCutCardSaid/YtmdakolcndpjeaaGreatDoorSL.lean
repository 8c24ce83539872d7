/-
  Part of the proof: SL.
-/
import Derived.Test.YtmdakolcndpjeaaGreatDoorSK
set_option linter.unusedSimpArgs false
set_option linter.unusedVariables false
set_option linter.constructorNameAsVariable false
section
namespace Go.Proofs.YtmdakolcndpjeaaGreatDoor
open Go.AE Go.Lex Go.Pol Go.Syn
theorem lex_le : ∀ (m : Nat) (s : List UInt8) (k : Nat) (l : List Tk), s.length ≤ m → lexR s k = .ok l → l.length ≤ s.length := by
  intro m
  induction m with
  | zero =>
    intro s k l hs h
    obtain rfl := List.length_eq_zero_iff.1 (Nat.le_zero.1 hs)
    rw [lexR_nil] at h; injection h with h; subst h; simp
  | succ m ih =>
    intro s k l hs h
    cases s with
    | nil => rw [lexR_nil] at h; injection h with h; subst h; simp
    | cons c r =>
      cases hst : stepB c r with
      | none => rw [lexR_none hst] at h; cases h
      | some q =>
        obtain ⟨n, o⟩ := q
        rw [lexR_some hst] at h
        cases hr : lexR (r.drop (n - 1)) (k + n) with
        | wrong i => rw [hr] at h; cases h
        | ok l' =>
          rw [hr] at h
          injection h with h
          have := ih (r.drop (n - 1)) (k + n) l' (by simp at hs ⊢; omega) hr
          have hn := stepB_len hst
          subst h
          simp only [List.length_drop] at this
          cases o with
          | none => simp [addTk]; omega
          | some q => obtain ⟨a, t, v⟩ := q; simp [addTk]; omega
theorem lexF_le (src : List UInt8) : (lexF src).1.length ≤ src.length := by
  unfold lexF
  split
  · simp
  · split
    · rename_i h1 l h2
      exact lex_le src.length src 0 l (Nat.le_refl _) h2
    · simp
/-! ### SyntaxCut -/
theorem rs7 : Tryz.f7.results.toList = [.tmp 4] := by kernel_rfl
theorem cv_iu (n : Int) (h : Heap) : convEv Tryz.prog h 3 48 (.v (.int .i64 n)) = some (.v (.int .u64 (IntKind.u64.wrap n)), h) := by kernel_rfl
theorem cv_ui (n : Int) (h : Heap) : convEv Tryz.prog h 48 3 (.v (.int .u64 n)) = some (.v (.int .i64 (IntKind.i64.wrap n)), h) := by kernel_rfl
theorem u64_nonneg (n : Int) : 0 ≤ IntKind.u64.wrap n ∧ IntKind.u64.wrap n < 18446744073709551616 := by
  unfold IntKind.wrap
  simp [IntKind.signed, IntKind.bits]
  omega
theorem rem_ix (n : Int) {l : Nat} (h0 : 0 < l) (h1 : l ≤ 65536) : ∃ i : Nat, i < l ∧ IntKind.i64.wrap (Int.tmod (IntKind.u64.wrap n) (IntKind.u64.wrap (l : Int))) = (i : Int) ∧ IntKind.u64.wrap (l : Int) ≠ 0 := by
  obtain ⟨a, b⟩ := u64_nonneg n
  generalize IntKind.u64.wrap n = m at *
  have hl : IntKind.u64.wrap (l : Int) = (l : Int) := by
    unfold IntKind.wrap
    simp [IntKind.signed, IntKind.bits]
    omega
  rw [hl, Int.tmod_eq_emod_of_nonneg a]
  have hi : 0 ≤ m % (l : Int) := Int.emod_nonneg _ (by omega)
  have hj : m % (l : Int) < (l : Int) := Int.emod_lt_of_pos _ (by omega)
  refine ⟨(m % (l : Int)).toNat, by omega, ?_, by omega⟩
  unfold IntKind.wrap
  simp [IntKind.signed, IntKind.bits]
  omega
theorem valid_take {l : List Tk} (h : Valid l) (i : Nat) : Valid (l.take i) := fun t ht => h t (List.mem_of_mem_take ht)
theorem textE_ok {l : List Tk} (h : Valid l) : textE l = 0 := by
  unfold textE
  rw [if_pos]
  exact List.all_eq_true.2 fun t ht => h t ht
theorem textS_ok {l : List Tk} (h : Valid l) : textS l = joinS l := by
  unfold textS
  rw [if_pos]
  exact List.all_eq_true.2 fun t ht => h t ht
theorem toks_take (l : List Tk) (i : Nat) : (toks l).take i = toks (l.take i) := by simp [toks, List.map_take]
theorem cut_slice {tok : Tok} {l : List Tk} {sz i : Nat} (hz : sz = 4) (hi : i < l.length) : sliceEv Tryz.prog 39 (.list tok sz (toks l)) none (some (.v (.int .i64 (i : Int)))) none = some (.list (cutTok tok false false i) 4 (toks (l.take i))) := by
  subst hz
  have := slice_list_to (P := Tryz.prog) (t := 39) (k := tok) (kk := .i64) (sz := 4) (es := toks l) (hi := (i : Int)) Tryz.underlying39 sz43 (by omega) (by rw [toks_len]; omega)
  rw [this, Int.toNat_natCast, toks_take]
set_option maxHeartbeats 16000000 in
set_option maxRecDepth 100000 in
theorem syntaxCut_law (src : List UInt8) (hs : src.length ≤ 9223372036854775807) (n : Int) : ∃ h', W.call 7 [.v (.string (bs src)), .v (.int .i64 n)] Heap.init = some (.ret (.v (.bool true)), h') ∧ True := by
  have u9 := Tryz.underlying9; have u39 := Tryz.underlying39; have u48 := Tryz.underlying48
  have a28 := ag28; have s28 := sz28; have z28 := zc28; have a3 := ag3; have a9 := ag9; have a31 := ag31'
  obtain ⟨h1, c1, x1⟩ := sane_ev Heap.init rfl
  have o1 := x1.ok rfl
  have c2 := lex_eq (src := src) (h := h1) hs o1
  have o2 := lex_ok (src := src) (h := h1) hs o1
  have z2 := lex_z (src := src) (h := h1) hs o1
  obtain ⟨t3, h3, c3, x3, ok3⟩ := parse_ev src hs (lexH src h1) o2
  have o3 : okHeap (h3.push (prow (parseF src).1 t3)) = true := x3.ok o2
  have ln := lexF_len src
  have hv := lexF_valid src
  have law : ∀ i : Nat, (parseF src).2.2 = 0 → i < (lexF src).1.length → (joinS ((lexF src).1.take i)).length ≤ 65536 → _ := fun i a b c => cut_plain (i := i) a b c
  generalize lexTok src h1 = tk at *
  generalize lexSz src h1 = sz at *
  generalize lexH src h1 = h2 at *
  refine call_ex rfl Tryz.func7 rfl ?_
  by_cases q1 : 2000 < src.length
  · clear law hv ok3 x1 x3 z2
    repeat' (first | simp (config := { maxSteps := 4000000 }) (disch := first | assumption | (exact Nat.le_refl _) | omega | (simp only [lenS] <;> omega) | (simp (disch := (first | assumption | omega | (exact (push_len _ _).symm) | (simp only [lenH]; omega) | (refine Nat.le_antisymm ?_ ?_ <;> simp only [lenH] <;> omega) | fail)) only [getS] <;> first | assumption | rfl) | (simp only [canS]; assumption) | (exact start_round _ _) | (simp only [rndS]; first | assumption | exact start_round _ _) | fail) only [goS, plainEv, resultsEv, resultListEv, reduceIte, Nat.reduceEqDiff, goT, eq_self, beq_self_eq_true, goH, goU, rs7, st28, put_push_eq, push_len, bs_size, *] | ((first | refine G_d ?_ ?_ | refine G_n ?_ ?_ | refine B_d ?_ ?_ | refine B_n ?_ ?_) <;> (intro _; try (exfalso; omega))) | ((first | refine G_m ?_ ?_ | refine B_m ?_ ?_ | refine G_b ?_ ?_ | refine B_b ?_ ?_) <;> intro _))
    exact answerT rfl
  by_cases q2 : (lexF src).2.2 = 0
  rotate_left 1
  · clear law hv ok3 x1 x3 z2
    repeat' (first | simp (config := { maxSteps := 4000000 }) (disch := first | assumption | (exact Nat.le_refl _) | omega | (simp only [lenS] <;> omega) | (simp (disch := (first | assumption | omega | (exact (push_len _ _).symm) | (simp only [lenH]; omega) | (refine Nat.le_antisymm ?_ ?_ <;> simp only [lenH] <;> omega) | fail)) only [getS] <;> first | assumption | rfl) | (simp only [canS]; assumption) | (exact start_round _ _) | (simp only [rndS]; first | assumption | exact start_round _ _) | fail) only [goS, plainEv, resultsEv, resultListEv, reduceIte, Nat.reduceEqDiff, goT, eq_self, beq_self_eq_true, goH, goU, rs7, st28, put_push_eq, push_len, bs_size, *] | ((first | refine G_d ?_ ?_ | refine G_n ?_ ?_ | refine B_d ?_ ?_ | refine B_n ?_ ?_) <;> (intro _; try (exfalso; omega))) | ((first | refine G_m ?_ ?_ | refine B_m ?_ ?_ | refine G_b ?_ ?_ | refine B_b ?_ ?_) <;> intro _))
    exact answerT rfl
  by_cases q3 : (parseF src).2.2 = 0
  rotate_left 1
  · clear law hv ok3 x1 x3 z2
    repeat' (first | simp (config := { maxSteps := 4000000 }) (disch := first | assumption | (exact Nat.le_refl _) | omega | (simp only [lenS] <;> omega) | (simp (disch := (first | assumption | omega | (exact (push_len _ _).symm) | (simp only [lenH]; omega) | (refine Nat.le_antisymm ?_ ?_ <;> simp only [lenH] <;> omega) | fail)) only [getS] <;> first | assumption | rfl) | (simp only [canS]; assumption) | (exact start_round _ _) | (simp only [rndS]; first | assumption | exact start_round _ _) | fail) only [goS, plainEv, resultsEv, resultListEv, reduceIte, Nat.reduceEqDiff, goT, eq_self, beq_self_eq_true, goH, goU, rs7, st28, put_push_eq, push_len, bs_size, *] | ((first | refine G_d ?_ ?_ | refine G_n ?_ ?_ | refine B_d ?_ ?_ | refine B_n ?_ ?_) <;> (intro _; try (exfalso; omega))) | ((first | refine G_m ?_ ?_ | refine B_m ?_ ?_ | refine G_b ?_ ?_ | refine B_b ?_ ?_) <;> intro _))
    exact answerT rfl
  have law2 := fun i => law i q3
  rw [q2] at c2
  rw [q3] at c3
  by_cases q4 : (lexF src).1.length = 0
  · clear law law2 hv ok3 x1 x3 z2 q2 q3
    repeat' (first | simp (config := { maxSteps := 4000000 }) (disch := first | assumption | (exact Nat.le_refl _) | omega | (simp only [lenS] <;> omega) | (simp (disch := (first | assumption | omega | (exact (push_len _ _).symm) | (simp only [lenH]; omega) | (refine Nat.le_antisymm ?_ ?_ <;> simp only [lenH] <;> omega) | fail)) only [getS] <;> first | assumption | rfl) | (simp only [canS]; assumption) | (exact start_round _ _) | (simp only [rndS]; first | assumption | exact start_round _ _) | fail) only [goS, plainEv, resultsEv, resultListEv, reduceIte, Nat.reduceEqDiff, goT, eq_self, beq_self_eq_true, goH, goU, rs7, st28, put_push_eq, push_len, bs_size, toks_len, *] | ((first | refine G_d ?_ ?_ | refine G_n ?_ ?_ | refine B_d ?_ ?_ | refine B_n ?_ ?_) <;> (intro _; try (exfalso; omega))) | ((first | refine G_m ?_ ?_ | refine B_m ?_ ?_ | refine G_b ?_ ?_ | refine B_b ?_ ?_) <;> intro _))
    exact answerT rfl
  by_cases q5 : 1000 < (lexF src).1.length
  · clear law law2 hv ok3 x1 x3 z2 q2 q3
    repeat' (first | simp (config := { maxSteps := 4000000 }) (disch := first | assumption | (exact Nat.le_refl _) | omega | (simp only [lenS] <;> omega) | (simp (disch := (first | assumption | omega | (exact (push_len _ _).symm) | (simp only [lenH]; omega) | (refine Nat.le_antisymm ?_ ?_ <;> simp only [lenH] <;> omega) | fail)) only [getS] <;> first | assumption | rfl) | (simp only [canS]; assumption) | (exact start_round _ _) | (simp only [rndS]; first | assumption | exact start_round _ _) | fail) only [goS, plainEv, resultsEv, resultListEv, reduceIte, Nat.reduceEqDiff, goT, eq_self, beq_self_eq_true, goH, goU, rs7, st28, put_push_eq, push_len, bs_size, toks_len, *] | ((first | refine G_d ?_ ?_ | refine G_n ?_ ?_ | refine B_d ?_ ?_ | refine B_n ?_ ?_) <;> (intro _; try (exfalso; omega))) | ((first | refine G_m ?_ ?_ | refine B_m ?_ ?_ | refine G_b ?_ ?_ | refine B_b ?_ ?_) <;> intro _))
    exact answerT rfl
  obtain ⟨i, hi, e1, e2⟩ := rem_ix n (l := (lexF src).1.length) (by omega) (by omega)
  have hvi := valid_take hv i
  have c4 := text_eq (cutTok tk false false i) 4 ((lexF src).1.take i) (fun _ _ => rfl) (by rw [List.length_take]; omega) (h3.push (prow (parseF src).1 t3))
  rw [textS_ok hvi, textE_ok hvi] at c4
  have o4 := (text_ev (cutTok tk false false i) 4 ((lexF src).1.take i) (fun _ _ => rfl) (by rw [List.length_take]; omega) (h3.push (prow (parseF src).1 t3))).ext.ok o3
  have jl := joinS_len hvi
  rw [List.length_take, Nat.min_eq_left (by omega)] at jl
  have jl2 : (joinS ((lexF src).1.take i)).length ≤ 65536 := by omega
  obtain ⟨p1, p2⟩ := law2 i hi jl2
  obtain ⟨t5, h5, c5, x5, ok5⟩ := parse_ev (joinS ((lexF src).1.take i)) (by omega) _ o4
  rw [p1, p2] at c5
  have sl := cut_slice (tok := tk) (sz := sz) (l := (lexF src).1) (i := i) (z2 0 (by omega)) hi
  generalize (parseF (joinS ((lexF src).1.take i))).1 = pq at c5
  generalize (joinS ((lexF src).1.take i)) = js at *
  generalize heapOf W 17 [.list (cutTok tk false false i) 4 (toks ((lexF src).1.take i))] (h3.push (prow (parseF src).1 t3)) = h4 at *
  clear law law2 hv ok3 x1 x3 z2 q2 q3 hvi p1 p2 ok5 x5 jl
  have q4' : ¬ (((lexF src).1.length : Int) = 0) := by omega
  repeat' (first | simp (config := { maxSteps := 4000000 }) (disch := first | assumption | (exact Nat.le_refl _) | omega | (simp only [lenS] <;> omega) | (simp (disch := (first | assumption | omega | (exact (push_len _ _).symm) | (simp only [lenH]; omega) | (refine Nat.le_antisymm ?_ ?_ <;> simp only [lenH] <;> omega) | fail)) only [getS] <;> first | assumption | rfl) | (simp only [canS]; assumption) | (exact start_round _ _) | (simp only [rndS]; first | assumption | exact start_round _ _) | fail) only [goS, plainEv, resultsEv, resultListEv, reduceIte, Nat.reduceEqDiff, goT, eq_self, beq_self_eq_true, goH, goU, rs7, st28, put_push_eq, push_len, bs_size, toks_len, cv_iu, cv_ui, sl, *] | ((first | refine G_d ?_ ?_ | refine G_n ?_ ?_ | refine B_d ?_ ?_ | refine B_n ?_ ?_) <;> (intro _; try (exfalso; omega))) | ((first | refine G_m ?_ ?_ | refine B_m ?_ ?_ | refine G_b ?_ ?_ | refine B_b ?_ ?_) <;> intro _))
  all_goals exact answerT rfl
end Go.Proofs.YtmdakolcndpjeaaGreatDoor
end
