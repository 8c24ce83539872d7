/-
  Part of the proof: SL.
-/
import Derived.Test.YtilmhlbjjfgeoaaDoorSI
set_option linter.unusedSimpArgs false
set_option linter.unusedVariables false
set_option linter.constructorNameAsVariable false
section
namespace Go.Proofs.YtilmhlbjjfgeoaaDoor
open Go.AE Go.Lex Go.Pol
/-! ### bare: the same policy, with other numbers -/
theorem rs50 : Tryd.f50.results.toList = [.cell 4 26] := by kernel_rfl
theorem rs22 : Tryd.f22.results.toList = [.cell 4 28] := by kernel_rfl
theorem ag66 : isAggB Tryd.prog 66 = some false := by kernel_rfl
theorem sz66 : sizeB Tryd.prog 66 = some 1 := by kernel_rfl
theorem zc66 : (zeroA Tryd.prog 66).bind AV.cellsO = some [.v .nilFunc] := by kernel_rfl
theorem store66 {h : Heap} {b : Nat} {x : AV} {g : Fn} {ts cs : List AV} (hb : h.boxes[b]? = some [x]) : storeEv Tryd.prog h 66 (.ptr (.box b) 0) (.func g ts cs) = some (h.put b [.func g ts cs]) := store_box (off := 0) (cs := [x]) (xs := [.func g ts cs]) rfl sz66 hb rfl (Nat.le_refl 1)
set_option maxHeartbeats 8000000 in
set_option maxRecDepth 100000 in
theorem bare1_ev (N : Int) (bm bf : Nat) : ∀ (x : Ex) (tok : Tok) (sz : Nat) (rows : List (List AV)), Row x (row5 x.kind x.n x.no x.name tok sz rows) → cnt x ≤ 1000 → ∀ h, okHeap h = true → h.boxes[bm]? = some [.v (.int .i64 N)] → h.boxes[bf]? = some [.func (.func 50) [] [.ptr (.box bm) 0, .ptr (.box bf) 0]] →
    GivesEx W 50 [.agg (row5 x.kind x.n x.no x.name tok sz rows), .ptr (.box bm) 0, .ptr (.box bf) 0] h (bareE N x) := by
  intro x
  induction x using Ex.ind with
  | h kk nn no name l ih =>
    intro tok sz rows hrow hcn h hok hbm hbf
    obtain ⟨hrows, hsz, hbd⟩ := Row.got hrow
    have ux := Tryd.underlying24
    have a3 := ag3; have a9 := ag9; have a24 := ag24; have a26 := ag26; have s26 := sz26; have s3 := sz3; have s24 := sz24; have z26 := zc26; have a66 := ag66
    have hlen := hrows.1
    simp only [Ex.kind, Ex.n, Ex.no, Ex.name, Ex.l] at hrows hsz hlen hbd ⊢
    have kr := Keep.mk hrows
    have kz := Keep.mk hsz
    have kih := Keep.mk ih
    have kcn := Keep.mk hcn
    have kok := Keep.mk hok
    have kbm := Keep.mk hbm
    have kbf := Keep.mk hbf
    have m1 := (List.getElem?_eq_some_iff.1 hbm).1
    have m2 := (List.getElem?_eq_some_iff.1 hbf).1
    clear hrows hsz ih
    rw [bareE]
    suffices hs : ∃ r h', W.call 50 [.agg (row5 kk nn no name tok sz rows), .ptr (.box bm) 0, .ptr (.box bf) 0] h = some (r, h') ∧ (∃ tok' sz' rows', r = .ret (.agg (row5 kk nn N name tok' sz' rows')) ∧ Ext h h' ∧ Row (.mk kk nn N name (bareL N l)) (row5 kk nn N name tok' sz' rows')) by
      obtain ⟨r, h', q1, tok', sz', rows', rfl, q2, q3⟩ := hs
      exact ⟨tok', sz', rows', h', q1, q2, q3⟩
    refine call_post rfl Tryd.func50 rfl ?_
    repeat' (first | simp (config := { maxSteps := 4000000 }) (disch := first | assumption | (exact Nat.le_refl _) | omega | (simp only [List.length_cons, List.length_nil, List.length_append, push_len, put_len, len_app] <;> omega) | (simp (disch := (first | assumption | omega | (exact (push_len _ _).symm) | (simp only [push_len, put_len, len_app]; omega) | (refine Nat.le_antisymm ?_ ?_ <;> simp only [push_len, put_len, len_app] <;> omega) | fail)) only [get_push_last, get_push_eq, get_push_ne, get_put_eq, get_put_ne, get_app] <;> first | assumption | rfl) | (simp only [canApp_push, canApp_put]; assumption) | (exact start_round _ _) | (simp only [st_round, dfr_round, pn_round]; first | assumption | exact start_round _ _) | fail) only [goS, plainEv, resultsEv, resultListEv, reduceIte, Nat.reduceEqDiff, Option.map_some, Option.map_none, Option.bind_some, List.map_cons, List.map_nil, List.getD_cons_zero, List.getD_cons_succ, List.getElem?_toArray, List.getElem?_cons_zero, List.getElem?_cons_succ, eq_self, beq_self_eq_true, goH, List.append_nil, List.nil_append, rs50, row5_cells, row5_0, row5_3, row5_4, row5_all, fa26_0, fa26_2, fa26_3, fa26_4, load26, store26, store26_2, store26_4, put_push_eq, put_push_ne, push_len, cell_one, List.cons_append, List.nil_append, *] | (refine guard_dec (fun _ => ?_) (fun _ => ?_) <;> try (exfalso; omega)) | (refine guard_ndec (fun _ => ?_) (fun _ => ?_) <;> try (exfalso; omega)) | (refine branch_dec (fun _ => ?_) (fun _ => ?_) <;> try (exfalso; omega)) | (refine branch_ndec (fun _ => ?_) (fun _ => ?_) <;> try (exfalso; omega)) | refine guard_nbool (fun _ => ?_) (fun _ => ?_) | refine branch_nbool (fun _ => ?_) (fun _ => ?_) | refine guard_bool (fun _ => ?_) (fun _ => ?_) | refine branch_bool (fun _ => ?_) (fun _ => ?_))
    refine run_loop (fun m e h' => ∃ (i : Nat) (tokR : Tok) (szR : Nat) (rowsR : List (List AV)), i ≤ l.length ∧ m = l.length - i ∧ e.get 2 = .ptr (.box bf) 0 ∧ e.get 4 = .ptr (.box (h.boxes.length + 1)) 0 ∧ e.get 5 = .ptr (.box (h.boxes.length + 1 + 1)) 0 ∧ e.get 13 = .list tok sz rows ∧ e.get 14 = .v (.int .i64 (l.length : Nat)) ∧ e.get 15 = .v (.int .i64 i) ∧ e.defers = [] ∧
      h'.boxes[h.boxes.length + 1]? = some (row5 0 0 0 [] .nil 0 []) ∧ h'.boxes[h.boxes.length + 1 + 1]? = some (row5 kk nn N name tokR szR rowsR) ∧ Pol.Rows (bareL N (l.take i)) rowsR ∧ CanApp h.tn h' tokR ∧ (szR = 5 ∨ (rowsR = [] ∧ tokR = .nil)) ∧ Ext h h' ∧ okHeap h' = true) ?_ l.length _ _ ?_
    · rintro m e h' ⟨i, tokR, szR, rowsR, hi, rfl, g2, g4, g5, g13, g14, g15, hd, hb2, hb3, hrr, hca, hsr, hx, hok'⟩
      have hrl := hrr.1
      have khrr := Keep.mk hrr
      have kx := Keep.mk hx
      have kca := Keep.mk hca
      have ksr := Keep.mk hsr
      have kok' := Keep.mk hok'
      clear hrr hx hca hsr hok' hbm hbf
      by_cases hlt : i < l.length
      · obtain ⟨y, r, hy, hr, hyr⟩ := kr.out.get hlt
        have h5 := kz.out i hlt
        subst h5
        obtain ⟨tk2, sz2, rows2, rfl, -⟩ := Row.five hyr
        have hlt3 : (i : Int) < (rows.length : Int) := by rw [hlen]; omega
        have hlt4 : (i : Int) < (l.length : Int) := by omega
        have hle5 : 5 ≤ ((row5 y.kind y.n y.no y.name tk2 sz2 rows2).drop 0).length := by rw [List.drop_zero]; exact Nat.le_refl _
        have hcy : cnt y ≤ 1000 := by have := cntL_mem (List.mem_of_getElem? hy); have := kcn.out; rw [cnt] at this; omega
        have hll : l.length ≤ 1000 := by have := cntL_len l; have := kcn.out; rw [cnt] at this; omega
        have hbf := push_old (cs := row5 y.kind y.n y.no y.name tk2 sz2 rows2) (kx.out.box _ _ kbf.out)
        obtain ⟨tok4, sz4, rows4, h4, c4, hx4, hr4⟩ := kih.out y (List.mem_of_getElem? hy) tk2 sz2 rows2 hyr hcy (h'.push (row5 y.kind y.n y.no y.name tk2 sz2 rows2)) kok'.out (push_old (kx.out.box _ _ kbm.out)) hbf
        have hrl2 : rowsR.length ≤ 70000 := by rw [hrl, bareL_map, List.length_map, List.length_take]; omega
        have kca4 := Keep.mk (kca.out.ext ((Ext.push h' (row5 y.kind y.n y.no y.name tk2 sz2 rows2)).trans hx4))
        have happ := app_ex (h := h4) (r := row5 (bareE N y).kind (bareE N y).n (bareE N y).no (bareE N y).name tok4 sz4 rows4) (kca4.out.mono (Nat.zero_le _)) ksr.out hrl2
        have e2 := hx4.box _ _ (push_old hb2)
        have e3 := hx4.box _ _ (push_old hb3)
        have kx4 := Keep.mk ((Ext.push h' (row5 y.kind y.n y.no y.name tk2 sz2 rows2)).trans hx4)
        have khr4 := Keep.mk hr4
        have n1 : h.boxes.length + 1 + 1 ≠ h'.boxes.length := by have := (List.getElem?_eq_some_iff.1 hb3).1; omega
        have n2 : h.boxes.length + 1 ≠ h'.boxes.length := by have := (List.getElem?_eq_some_iff.1 hb2).1; omega
        clear hx4 hr4
        repeat' (first | simp (config := { maxSteps := 4000000 }) (disch := first | assumption | (exact Nat.le_refl _) | omega | (simp only [List.length_cons, List.length_nil, List.length_append, push_len, put_len, len_app] <;> omega) | (simp (disch := (first | assumption | omega | (exact (push_len _ _).symm) | (simp only [push_len, put_len, len_app]; omega) | (refine Nat.le_antisymm ?_ ?_ <;> simp only [push_len, put_len, len_app] <;> omega) | fail)) only [get_push_last, get_push_eq, get_push_ne, get_put_eq, get_put_ne, get_app] <;> first | assumption | rfl) | (simp only [canApp_push, canApp_put]; assumption) | (exact start_round _ _) | (simp only [st_round, dfr_round, pn_round]; first | assumption | exact start_round _ _) | fail) only [goS, plainEv, resultsEv, resultListEv, reduceIte, Nat.reduceEqDiff, Option.map_some, Option.map_none, Option.bind_some, List.map_cons, List.map_nil, List.getD_cons_zero, List.getD_cons_succ, List.getElem?_toArray, List.getElem?_cons_zero, List.getElem?_cons_succ, eq_self, beq_self_eq_true, goH, List.append_nil, List.nil_append, rs50, row5_4, fa26_4, load26, store26, store26_4, index_list, load_row_agg, row5_all, put_push_eq, put_push_ne, push_len, cell_one, List.cons_append, List.nil_append, *] | (refine guard_dec (fun _ => ?_) (fun _ => ?_) <;> try (exfalso; omega)) | (refine guard_ndec (fun _ => ?_) (fun _ => ?_) <;> try (exfalso; omega)) | (refine branch_dec (fun _ => ?_) (fun _ => ?_) <;> try (exfalso; omega)) | (refine branch_ndec (fun _ => ?_) (fun _ => ?_) <;> try (exfalso; omega)) | refine guard_nbool (fun _ => ?_) (fun _ => ?_) | refine branch_nbool (fun _ => ?_) (fun _ => ?_) | refine guard_bool (fun _ => ?_) (fun _ => ?_) | refine branch_bool (fun _ => ?_) (fun _ => ?_))
        refine run_draw_but [(1, 4)] (by kernel_rfl) ?_ ?_
        · intro p hp
          simp only [List.mem_singleton] at hp
          subst hp
          refine stable_before (x := .ptr (.box (h.boxes.length + 1 + 1)) 4) (v := .list tokR szR rowsR) (by kernel_rfl) rfl rfl rfl (by kernel_rfl) (by rw [sameAV, sameTok_refl, Rows.same khrr.out]; simp) ?_ ?_
          · simp only [List.take_succ_cons, List.take_zero]
            repeat' (first | simp (config := { maxSteps := 4000000 }) (disch := first | assumption | (exact Nat.le_refl _) | omega | (simp only [List.length_cons, List.length_nil, List.length_append, push_len, put_len, len_app] <;> omega) | (simp (disch := (first | assumption | omega | (exact (push_len _ _).symm) | (simp only [push_len, put_len, len_app]; omega) | (refine Nat.le_antisymm ?_ ?_ <;> simp only [push_len, put_len, len_app] <;> omega) | fail)) only [get_push_last, get_push_eq, get_push_ne, get_put_eq, get_put_ne, get_app] <;> first | assumption | rfl) | (simp only [canApp_push, canApp_put]; assumption) | (exact start_round _ _) | (simp only [st_round, dfr_round, pn_round]; first | assumption | exact start_round _ _) | fail) only [goS, plainEv, resultsEv, resultListEv, reduceIte, Nat.reduceEqDiff, Option.map_some, Option.map_none, Option.bind_some, List.map_cons, List.map_nil, List.getD_cons_zero, List.getD_cons_succ, List.getElem?_toArray, List.getElem?_cons_zero, List.getElem?_cons_succ, eq_self, beq_self_eq_true, goH, List.append_nil, List.nil_append, fa26_4, row5_4, load26, cell_one, *] | (refine guard_dec (fun _ => ?_) (fun _ => ?_) <;> try (exfalso; omega)) | (refine guard_ndec (fun _ => ?_) (fun _ => ?_) <;> try (exfalso; omega)) | (refine branch_dec (fun _ => ?_) (fun _ => ?_) <;> try (exfalso; omega)) | (refine branch_ndec (fun _ => ?_) (fun _ => ?_) <;> try (exfalso; omega)) | refine guard_nbool (fun _ => ?_) (fun _ => ?_) | refine branch_nbool (fun _ => ?_) (fun _ => ?_) | refine guard_bool (fun _ => ?_) (fun _ => ?_) | refine branch_bool (fun _ => ?_) (fun _ => ?_))
            simp only [and_self]
          · simp only [List.take_succ_cons, List.take_zero]
            repeat' (first | simp (config := { maxSteps := 4000000 }) (disch := first | assumption | (exact Nat.le_refl _) | omega | (simp only [List.length_cons, List.length_nil, List.length_append, push_len, put_len, len_app] <;> omega) | (simp (disch := (first | assumption | omega | (exact (push_len _ _).symm) | (simp only [push_len, put_len, len_app]; omega) | (refine Nat.le_antisymm ?_ ?_ <;> simp only [push_len, put_len, len_app] <;> omega) | fail)) only [get_push_last, get_push_eq, get_push_ne, get_put_eq, get_put_ne, get_app] <;> first | assumption | rfl) | (simp only [canApp_push, canApp_put]; assumption) | (exact start_round _ _) | (simp only [st_round, dfr_round, pn_round]; first | assumption | exact start_round _ _) | fail) only [goS, plainEv, resultsEv, resultListEv, reduceIte, Nat.reduceEqDiff, Option.map_some, Option.map_none, Option.bind_some, List.map_cons, List.map_nil, List.getD_cons_zero, List.getD_cons_succ, List.getElem?_toArray, List.getElem?_cons_zero, List.getElem?_cons_succ, eq_self, beq_self_eq_true, goH, List.append_nil, List.nil_append, fa26_4, row5_4, load26, index_list, load_row_agg, row5_all, cell_one, List.cons_append, List.nil_append, *] | (refine guard_dec (fun _ => ?_) (fun _ => ?_) <;> try (exfalso; omega)) | (refine guard_ndec (fun _ => ?_) (fun _ => ?_) <;> try (exfalso; omega)) | (refine branch_dec (fun _ => ?_) (fun _ => ?_) <;> try (exfalso; omega)) | (refine branch_ndec (fun _ => ?_) (fun _ => ?_) <;> try (exfalso; omega)) | refine guard_nbool (fun _ => ?_) (fun _ => ?_) | refine branch_nbool (fun _ => ?_) (fun _ => ?_) | refine guard_bool (fun _ => ?_) (fun _ => ?_) | refine branch_bool (fun _ => ?_) (fun _ => ?_))
            simp only [and_self]
        · repeat' (first | simp (config := { maxSteps := 4000000 }) (disch := first | assumption | (exact Nat.le_refl _) | omega | (simp only [List.length_cons, List.length_nil, List.length_append, push_len, put_len, len_app] <;> omega) | (simp (disch := (first | assumption | omega | (exact (push_len _ _).symm) | (simp only [push_len, put_len, len_app]; omega) | (refine Nat.le_antisymm ?_ ?_ <;> simp only [push_len, put_len, len_app] <;> omega) | fail)) only [get_push_last, get_push_eq, get_push_ne, get_put_eq, get_put_ne, get_app] <;> first | assumption | rfl) | (simp only [canApp_push, canApp_put]; assumption) | (exact start_round _ _) | (simp only [st_round, dfr_round, pn_round]; first | assumption | exact start_round _ _) | fail) only [goS, plainEv, resultsEv, resultListEv, reduceIte, Nat.reduceEqDiff, Option.map_some, Option.map_none, Option.bind_some, List.map_cons, List.map_nil, List.getD_cons_zero, List.getD_cons_succ, List.getElem?_toArray, List.getElem?_cons_zero, List.getElem?_cons_succ, eq_self, beq_self_eq_true, goH, List.append_nil, List.nil_append, rs50, fa26_4, row5_4, load26, index_list, load_row_agg, row5_all, build24, store26_4, cell_one, List.cons_append, List.nil_append, *] | (refine guard_dec (fun _ => ?_) (fun _ => ?_) <;> try (exfalso; omega)) | (refine guard_ndec (fun _ => ?_) (fun _ => ?_) <;> try (exfalso; omega)) | (refine branch_dec (fun _ => ?_) (fun _ => ?_) <;> try (exfalso; omega)) | (refine branch_ndec (fun _ => ?_) (fun _ => ?_) <;> try (exfalso; omega)) | refine guard_nbool (fun _ => ?_) (fun _ => ?_) | refine branch_nbool (fun _ => ?_) (fun _ => ?_) | refine guard_bool (fun _ => ?_) (fun _ => ?_) | refine branch_bool (fun _ => ?_) (fun _ => ?_))
          have e3l := (List.getElem?_eq_some_iff.1 e3).1
          refine ⟨l.length - (i + 1), by omega, i + 1, .free h4.tn, 5, rowsR ++ [row5 (bareE N y).kind (bareE N y).n (bareE N y).no (bareE N y).name tok4 sz4 rows4], by omega, rfl, (by first | trivial | (simp; done) | (simp; omega)), (by first | trivial | (simp; done) | (simp; omega)), (by first | trivial | (simp; done) | (simp; omega)), (by first | trivial | (simp; done) | (simp; omega)), (by first | trivial | (simp; done) | (simp; omega)), (by first | trivial | (simp; done) | (simp; omega)), (by first | trivial | (simp; done) | (simp; omega)), ?_, ?_, ?_, ?_, .inl rfl, ?_, ?_⟩
          · rw [put_other (by omega), app_boxes]; exact e2
          · exact put_this (by rw [app_boxes]; exact e3l)
          · obtain ⟨hj, rfl⟩ := List.getElem?_eq_some_iff.1 hy
            rw [bareL_map, List.take_succ_eq_append_getElem hj, List.map_append, ← bareL_map]
            exact Pol.Rows.snoc khrr.out khr4.out
          · exact kca4.out.next (kx4.out.ok kok'.out) (kx.out.trans kx4.out).tn
          · exact ((kx.out.trans kx4.out).app kca4.out).put_new (by omega) _
          · exact (Mut.app (b := 0) kca4.out).ok (kx4.out.ok kok'.out)
      · have hie : i = l.length := by omega
        subst hie
        have hlt3 : ¬ ((l.length : Int) < (l.length : Int)) := by omega
        rw [List.take_length] at khrr
        have e2l := (List.getElem?_eq_some_iff.1 hb2).1
        repeat' (first | simp (config := { maxSteps := 4000000 }) (disch := first | assumption | (exact Nat.le_refl _) | omega | (simp only [List.length_cons, List.length_nil, List.length_append, push_len, put_len, len_app] <;> omega) | (simp (disch := (first | assumption | omega | (exact (push_len _ _).symm) | (simp only [push_len, put_len, len_app]; omega) | (refine Nat.le_antisymm ?_ ?_ <;> simp only [push_len, put_len, len_app] <;> omega) | fail)) only [get_push_last, get_push_eq, get_push_ne, get_put_eq, get_put_ne, get_app] <;> first | assumption | rfl) | (simp only [canApp_push, canApp_put]; assumption) | (exact start_round _ _) | (simp only [st_round, dfr_round, pn_round]; first | assumption | exact start_round _ _) | fail) only [goS, plainEv, resultsEv, resultListEv, reduceIte, Nat.reduceEqDiff, Option.map_some, Option.map_none, Option.bind_some, List.map_cons, List.map_nil, List.getD_cons_zero, List.getD_cons_succ, List.getElem?_toArray, List.getElem?_cons_zero, List.getElem?_cons_succ, eq_self, beq_self_eq_true, goH, List.append_nil, List.nil_append, rs50, row5_4, fa26_4, load26, store26, *] | (refine guard_dec (fun _ => ?_) (fun _ => ?_) <;> try (exfalso; omega)) | (refine guard_ndec (fun _ => ?_) (fun _ => ?_) <;> try (exfalso; omega)) | (refine branch_dec (fun _ => ?_) (fun _ => ?_) <;> try (exfalso; omega)) | (refine branch_ndec (fun _ => ?_) (fun _ => ?_) <;> try (exfalso; omega)) | refine guard_nbool (fun _ => ?_) (fun _ => ?_) | refine branch_nbool (fun _ => ?_) (fun _ => ?_) | refine guard_bool (fun _ => ?_) (fun _ => ?_) | refine branch_bool (fun _ => ?_) (fun _ => ?_))
        refine ⟨_, _, rfl, tokR, szR, rowsR, rfl, kx.out.put_new (by omega) _, ?_⟩
        refine .mk _ _ _ _ _ _ _ _ khrr.out.1 (fun i hi => ?_) (by rw [bareL_map, List.length_map]; exact hbd) khrr.out.2
        rcases ksr.out with q | ⟨q, -⟩
        · exact q
        · exfalso; have := khrr.out.1; rw [q] at this; simp at this; omega
    · refine ⟨0, .nil, 0, [], Nat.zero_le _, rfl, ?_, ?_, ?_, ?_, ?_, ?_, ?_, ?_, ?_, ?_, .inl rfl, .inr ⟨rfl, rfl⟩, ((Ext.push _ _).trans (.push _ _)).trans (.push _ _), kok.out⟩
      iterate 7
        · simp only [goS, plainEv, resultsEv, resultListEv, reduceIte, Nat.reduceEqDiff, Option.map_some, Option.map_none, Option.bind_some, List.map_cons, List.map_nil, List.getD_cons_zero, List.getD_cons_succ, List.getElem?_toArray, List.getElem?_cons_zero, List.getElem?_cons_succ, eq_self, beq_self_eq_true, goH] <;> rfl
      · simp (disch := (first | assumption | omega | (exact (push_len _ _).symm) | (simp only [push_len, put_len, len_app]; omega) | (refine Nat.le_antisymm ?_ ?_ <;> simp only [push_len, put_len, len_app] <;> omega) | fail)) only [get_push_last, get_push_eq, get_push_ne, get_put_eq, get_put_ne, get_app]
      · simp (disch := (first | assumption | omega | (exact (push_len _ _).symm) | (simp only [push_len, put_len, len_app]; omega) | (refine Nat.le_antisymm ?_ ?_ <;> simp only [push_len, put_len, len_app] <;> omega) | fail)) only [get_push_last, get_push_eq, get_push_ne, get_put_eq, get_put_ne, get_app]
      · rw [List.take_zero, bareL_map]; exact Pol.Rows.nil
end Go.Proofs.YtilmhlbjjfgeoaaDoor
end

section
namespace Go.Proofs.YtilmhlbjjfgeoaaDoor
open Go.AE Go.Lex Go.Pol
def bareR (N : Int) (l : List Rl) : List Rl := l.map fun x => { x with kindNo := N, expr := bareE N x.expr }
def bareP (N : Int) (p : Po) : Po := { p with rules := bareR N p.rules, change := bareE N p.change }
theorem bareR_snoc (N : Int) (l : List Rl) (x : Rl) : bareR N (l ++ [x]) = bareR N l ++ [{ x with kindNo := N, expr := bareE N x.expr }] := by
  unfold bareR
  rw [List.map_append]
  rfl
theorem bareP_ok {N : Int} {p : Po} {t : PT} (ok : POk p t) {tokR tok4 : Tok} {szR sz4 : Nat} {rowsR rows4 : List (List AV)} (h1 : RRows (bareR N p.rules) rowsR) (h2 : Row (bareE N p.change) (row5 (bareE N p.change).kind (bareE N p.change).n (bareE N p.change).no (bareE N p.change).name tok4 sz4 rows4)) (h3 : szR = 8 ∨ (rowsR = [] ∧ tokR = .nil)) :
    POk (bareP N p) { t with tr := tokR, sr := szR, rr := rowsR, tok := tok4, sz := sz4, rows := rows4 } := by
  have hl : (bareR N p.rules).length = p.rules.length := by simp [bareR]
  refine ⟨h1, h2, ok.zk, ok.zo, fun i hi => ?_, ok.bk, ok.bo, ?_⟩
  · rcases h3 with q | ⟨q, -⟩
    · exact q
    · exfalso
      have := h1.1
      rw [q] at this
      have hi : i < (bareR N p.rules).length := hi
      simp at this
      omega
  · show (bareR N p.rules).length ≤ _
    rw [hl]; exact ok.br
theorem v_cells {x : Value} : (AV.v x).cellsO = some [.v x] := rfl
def GivesB (R : Rec) (g : FuncId) (args : List AV) (h : Heap) (q : Po) : Prop := ∃ t h', R.call g args h = some (.ret (.agg (prow q t)), h') ∧ Ext h h' ∧ POk q t
set_option maxHeartbeats 16000000 in
set_option maxRecDepth 100000 in
theorem bare_ev (N : Int) (p : Po) (t : PT) (ok : POk p t) (few : PFew p) (h : Heap) (hok : okHeap h = true) : GivesB W 22 [.agg (prow p t), .v (.int .i64 N)] h (bareP N p) := by
  have u23 := Tryd.underlying23
  have a3 := ag3; have a9 := ag9; have a22 := ag22; have a23 := ag23; have a24 := ag24; have a26 := ag26; have a28 := ag28; have a43 := ag43; have s26 := sz26; have s28 := sz28; have s43 := sz43; have s3 := sz3; have z28 := zc28; have z43 := zc43'; have a66 := ag66; have z66 := zc66; have s66 := sz66
  have hlen := ok.rules.1
  have kok := Keep.mk ok
  have kfew := Keep.mk few
  have kokh := Keep.mk hok
  suffices hs : ∃ r h', W.call 22 [.agg (prow p t), .v (.int .i64 N)] h = some (r, h') ∧ (∃ t', r = .ret (.agg (prow (bareP N p) t')) ∧ Ext h h' ∧ POk (bareP N p) t') by
    obtain ⟨r, h', q1, t', rfl, q3, q4⟩ := hs
    exact ⟨t', h', q1, q3, q4⟩
  clear few hok
  refine call_post rfl Tryd.func22 rfl ?_
  repeat' (first | simp (config := { maxSteps := 4000000 }) (disch := first | assumption | (exact Nat.le_refl _) | omega | (simp only [List.length_cons, List.length_nil, List.length_append, push_len, put_len, len_app] <;> omega) | (simp (disch := (first | assumption | omega | (exact (push_len _ _).symm) | (simp only [push_len, put_len, len_app]; omega) | (refine Nat.le_antisymm ?_ ?_ <;> simp only [push_len, put_len, len_app] <;> omega) | fail)) only [get_push_last, get_push_eq, get_push_ne, get_put_eq, get_put_ne, get_app] <;> first | assumption | rfl) | (simp only [canApp_push, canApp_put]; assumption) | (exact start_round _ _) | (simp only [st_round, dfr_round, pn_round]; first | assumption | exact start_round _ _) | fail) only [goS, plainEv, resultsEv, resultListEv, reduceIte, Nat.reduceEqDiff, Option.map_some, Option.map_none, Option.bind_some, List.map_cons, List.map_nil, List.getD_cons_zero, List.getD_cons_succ, List.getElem?_toArray, List.getElem?_cons_zero, List.getElem?_cons_succ, eq_self, beq_self_eq_true, goH, List.append_nil, List.nil_append, rs22, v_cells, fp28, fp43, prs, rrs, load28, store28, store28_3, push_len, build28, put_push_eq, put_push_ne, cell_one, store66, *] | (refine guard_dec (fun _ => ?_) (fun _ => ?_) <;> try (exfalso; omega)) | (refine guard_ndec (fun _ => ?_) (fun _ => ?_) <;> try (exfalso; omega)) | (refine branch_dec (fun _ => ?_) (fun _ => ?_) <;> try (exfalso; omega)) | (refine branch_ndec (fun _ => ?_) (fun _ => ?_) <;> try (exfalso; omega)) | refine guard_nbool (fun _ => ?_) (fun _ => ?_) | refine branch_nbool (fun _ => ?_) (fun _ => ?_) | refine guard_bool (fun _ => ?_) (fun _ => ?_) | refine branch_bool (fun _ => ?_) (fun _ => ?_))
  refine run_loop (fun m e h' => ∃ (i : Nat) (tokR : Tok) (szR : Nat) (rowsR : List (List AV)), i ≤ p.rules.length ∧ m = p.rules.length - i ∧ e.get 2 = .ptr (.box h.boxes.length) 0 ∧ e.get 3 = .ptr (.box (h.boxes.length + 1)) 0 ∧ e.get 4 = .ptr (.box (h.boxes.length + 1 + 1)) 0 ∧ e.get 5 = .ptr (.box (h.boxes.length + 1 + 1 + 1)) 0 ∧ e.get 6 = .ptr (.box (h.boxes.length + 1 + 1 + 1 + 1)) 0 ∧ e.get 13 = .list t.tr t.sr t.rr ∧ e.get 14 = .v (.int .i64 (p.rules.length : Nat)) ∧ e.get 15 = .v (.int .i64 i) ∧ e.defers = [] ∧
    h'.boxes[h.boxes.length]? = some (prow p t) ∧ h'.boxes[h.boxes.length + 1]? = some [.v (.int .i64 N)] ∧ h'.boxes[h.boxes.length + 1 + 1]? = some (prow zP zT) ∧ h'.boxes[h.boxes.length + 1 + 1 + 1]? = some [.func (.func 50) [] [.ptr (.box (h.boxes.length + 1)) 0, .ptr (.box (h.boxes.length + 1 + 1 + 1)) 0]] ∧ h'.boxes[h.boxes.length + 1 + 1 + 1 + 1]? = some (prow p { t with tr := tokR, sr := szR, rr := rowsR }) ∧ RRows (bareR N (p.rules.take i)) rowsR ∧ CanApp h.tn h' tokR ∧ (szR = 8 ∨ (rowsR = [] ∧ tokR = .nil)) ∧ Ext h h' ∧ okHeap h' = true) ?_ p.rules.length _ _ ?_
  · rintro m e h' ⟨i, tokR, szR, rowsR, hi, rfl, g2, g3, g4, g5, g6, g13, g14, g15, hd, hb1, hbn, hb2, hbf, hb3, hrr, hca, hsr, hx, hok'⟩
    have hrl := hrr.1
    have khrr := Keep.mk hrr
    have kx := Keep.mk hx
    have kca := Keep.mk hca
    have ksr := Keep.mk hsr
    have kok' := Keep.mk hok'
    clear hrr hx hca hsr hok'
    have n3 := (List.getElem?_eq_some_iff.1 hb3).1
    by_cases hlt : i < p.rules.length
    · obtain ⟨y, tk2, sz2, rows2, hy, hr, hyr⟩ := RRows.get kok.out.rules hlt
      have h8 := kok.out.zr i hlt
      have hlt3 : (i : Int) < (t.rr.length : Int) := by rw [hlen]; omega
      have hlt4 : (i : Int) < (p.rules.length : Int) := by omega
      have rf8 := @rrow_fit8 y tk2 sz2 rows2
      have hbr := kok.out.br
      have hll := kfew.out.l
      obtain ⟨tok4, sz4, rows4, h5, c5, hx5, hr5⟩ := bare1_ev N (h.boxes.length + 1) (h.boxes.length + 1 + 1 + 1) y.expr tk2 sz2 rows2 hyr (kfew.out.r y (List.mem_of_getElem? hy)) (h'.push (rrow y tk2 sz2 rows2)) kok'.out (push_old hbn) (push_old hbf)
      have e1 := hx5.box _ _ (push_old hb1)
      have en := hx5.box _ _ (push_old hbn)
      have e2 := hx5.box _ _ (push_old hb2)
      have ef := hx5.box _ _ (push_old hbf)
      have e3 := hx5.box _ _ (push_old hb3)
      have e4 := hx5.box _ _ (push_last h' (rrow y tk2 sz2 rows2))
      have kx5 := Keep.mk ((Ext.push h' (rrow y tk2 sz2 rows2)).trans hx5)
      have khr5 := Keep.mk hr5
      have kca5 := Keep.mk (kca.out.ext kx5.out)
      have hrl2 : rowsR.length ≤ 70000 := by rw [hrl]; simp [bareR]; omega
      have happ : ∀ (q : List AV) (cs : List AV), appendEv Tryd.prog (h5.put h'.boxes.length cs) #[23, 23] (.list tokR szR rowsR) (.list .tight 8 [q]) = some (.list (.free h5.tn) 8 (rowsR ++ [q]), (h5.put h'.boxes.length cs).app tokR) := fun q cs => app_rule (h := h5.put h'.boxes.length cs) (kca5.out.mono (Nat.zero_le _)) ksr.out hrl2
      have le4 := (List.getElem?_eq_some_iff.1 e4).1
      have le3 := (List.getElem?_eq_some_iff.1 e3).1
      clear hx5 hr5
      repeat' (first | simp (config := { maxSteps := 4000000 }) (disch := first | assumption | (exact Nat.le_refl _) | omega | (simp only [List.length_cons, List.length_nil, List.length_append, push_len, put_len, len_app] <;> omega) | (simp (disch := (first | assumption | omega | (exact (push_len _ _).symm) | (simp only [push_len, put_len, len_app]; omega) | (refine Nat.le_antisymm ?_ ?_ <;> simp only [push_len, put_len, len_app] <;> omega) | fail)) only [get_push_last, get_push_eq, get_push_ne, get_put_eq, get_put_ne, get_app] <;> first | assumption | rfl) | (simp only [canApp_push, canApp_put]; assumption) | (exact start_round _ _) | (simp only [st_round, dfr_round, pn_round]; first | assumption | exact start_round _ _) | fail) only [goS, plainEv, resultsEv, resultListEv, reduceIte, Nat.reduceEqDiff, Option.map_some, Option.map_none, Option.bind_some, List.map_cons, List.map_nil, List.getD_cons_zero, List.getD_cons_succ, List.getElem?_toArray, List.getElem?_cons_zero, List.getElem?_cons_succ, eq_self, beq_self_eq_true, goH, List.append_nil, List.nil_append, rs22, fp28, fp43, prs, rrs, load28, store28, store28_3, load43, load43_3, store43, store43_1, store43_3, index_list, load_row_agg, build23, push_len, put_push_eq, put_push_ne, put_put, r5, cell_one, List.cons_append, List.nil_append, *] | (refine guard_dec (fun _ => ?_) (fun _ => ?_) <;> try (exfalso; omega)) | (refine guard_ndec (fun _ => ?_) (fun _ => ?_) <;> try (exfalso; omega)) | (refine branch_dec (fun _ => ?_) (fun _ => ?_) <;> try (exfalso; omega)) | (refine branch_ndec (fun _ => ?_) (fun _ => ?_) <;> try (exfalso; omega)) | refine guard_nbool (fun _ => ?_) (fun _ => ?_) | refine branch_nbool (fun _ => ?_) (fun _ => ?_) | refine guard_bool (fun _ => ?_) (fun _ => ?_) | refine branch_bool (fun _ => ?_) (fun _ => ?_))
      refine run_draw_but [(0, 4)] (by kernel_rfl) ?_ ?_
      · intro q hq
        simp only [List.mem_singleton] at hq
        subst hq
        refine stable_before (x := .ptr (.box (h.boxes.length + 1)) 0) (v := .v (.int .i64 N)) (by kernel_rfl) rfl rfl rfl (by kernel_rfl) (by simp [sameAV, sameV]) ?_ ?_
        · simp only [List.take_succ_cons, List.take_zero]
          repeat' (first | simp (config := { maxSteps := 4000000 }) (disch := first | assumption | (exact Nat.le_refl _) | omega | (simp only [List.length_cons, List.length_nil, List.length_append, push_len, put_len, len_app] <;> omega) | (simp (disch := (first | assumption | omega | (exact (push_len _ _).symm) | (simp only [push_len, put_len, len_app]; omega) | (refine Nat.le_antisymm ?_ ?_ <;> simp only [push_len, put_len, len_app] <;> omega) | fail)) only [get_push_last, get_push_eq, get_push_ne, get_put_eq, get_put_ne, get_app] <;> first | assumption | rfl) | (simp only [canApp_push, canApp_put]; assumption) | (exact start_round _ _) | (simp only [st_round, dfr_round, pn_round]; first | assumption | exact start_round _ _) | fail) only [goS, plainEv, resultsEv, resultListEv, reduceIte, Nat.reduceEqDiff, Option.map_some, Option.map_none, Option.bind_some, List.map_cons, List.map_nil, List.getD_cons_zero, List.getD_cons_succ, List.getElem?_toArray, List.getElem?_cons_zero, List.getElem?_cons_succ, eq_self, beq_self_eq_true, goH, List.append_nil, List.nil_append, cell_one, *] | (refine guard_dec (fun _ => ?_) (fun _ => ?_) <;> try (exfalso; omega)) | (refine guard_ndec (fun _ => ?_) (fun _ => ?_) <;> try (exfalso; omega)) | (refine branch_dec (fun _ => ?_) (fun _ => ?_) <;> try (exfalso; omega)) | (refine branch_ndec (fun _ => ?_) (fun _ => ?_) <;> try (exfalso; omega)) | refine guard_nbool (fun _ => ?_) (fun _ => ?_) | refine branch_nbool (fun _ => ?_) (fun _ => ?_) | refine guard_bool (fun _ => ?_) (fun _ => ?_) | refine branch_bool (fun _ => ?_) (fun _ => ?_))
          simp only [and_self]
        · simp only [List.take_succ_cons, List.take_zero]
          repeat' (first | simp (config := { maxSteps := 4000000 }) (disch := first | assumption | (exact Nat.le_refl _) | omega | (simp only [List.length_cons, List.length_nil, List.length_append, push_len, put_len, len_app] <;> omega) | (simp (disch := (first | assumption | omega | (exact (push_len _ _).symm) | (simp only [push_len, put_len, len_app]; omega) | (refine Nat.le_antisymm ?_ ?_ <;> simp only [push_len, put_len, len_app] <;> omega) | fail)) only [get_push_last, get_push_eq, get_push_ne, get_put_eq, get_put_ne, get_app] <;> first | assumption | rfl) | (simp only [canApp_push, canApp_put]; assumption) | (exact start_round _ _) | (simp only [st_round, dfr_round, pn_round]; first | assumption | exact start_round _ _) | fail) only [goS, plainEv, resultsEv, resultListEv, reduceIte, Nat.reduceEqDiff, Option.map_some, Option.map_none, Option.bind_some, List.map_cons, List.map_nil, List.getD_cons_zero, List.getD_cons_succ, List.getElem?_toArray, List.getElem?_cons_zero, List.getElem?_cons_succ, eq_self, beq_self_eq_true, goH, List.append_nil, List.nil_append, fp28, fp43, prs, rrs, load28, load43, load43_3, r5, List.cons_append, List.nil_append, cell_one, *] | (refine guard_dec (fun _ => ?_) (fun _ => ?_) <;> try (exfalso; omega)) | (refine guard_ndec (fun _ => ?_) (fun _ => ?_) <;> try (exfalso; omega)) | (refine branch_dec (fun _ => ?_) (fun _ => ?_) <;> try (exfalso; omega)) | (refine branch_ndec (fun _ => ?_) (fun _ => ?_) <;> try (exfalso; omega)) | refine guard_nbool (fun _ => ?_) (fun _ => ?_) | refine branch_nbool (fun _ => ?_) (fun _ => ?_) | refine guard_bool (fun _ => ?_) (fun _ => ?_) | refine branch_bool (fun _ => ?_) (fun _ => ?_))
          simp only [and_self]
      · repeat' (first | simp (config := { maxSteps := 4000000 }) (disch := first | assumption | (exact Nat.le_refl _) | omega | (simp only [List.length_cons, List.length_nil, List.length_append, push_len, put_len, len_app] <;> omega) | (simp (disch := (first | assumption | omega | (exact (push_len _ _).symm) | (simp only [push_len, put_len, len_app]; omega) | (refine Nat.le_antisymm ?_ ?_ <;> simp only [push_len, put_len, len_app] <;> omega) | fail)) only [get_push_last, get_push_eq, get_push_ne, get_put_eq, get_put_ne, get_app] <;> first | assumption | rfl) | (simp only [canApp_push, canApp_put]; assumption) | (exact start_round _ _) | (simp only [st_round, dfr_round, pn_round]; first | assumption | exact start_round _ _) | fail) only [goS, plainEv, resultsEv, resultListEv, reduceIte, Nat.reduceEqDiff, Option.map_some, Option.map_none, Option.bind_some, List.map_cons, List.map_nil, List.getD_cons_zero, List.getD_cons_succ, List.getElem?_toArray, List.getElem?_cons_zero, List.getElem?_cons_succ, eq_self, beq_self_eq_true, goH, List.append_nil, List.nil_append, rs22, fp28, fp43, prs, rrs, load28, store28, store28_3, load43, load43_3, store43, store43_1, store43_3, index_list, load_row_agg, build23, push_len, put_push_eq, put_push_ne, put_put, r5, cell_one, List.cons_append, List.nil_append, *] | (refine guard_dec (fun _ => ?_) (fun _ => ?_) <;> try (exfalso; omega)) | (refine guard_ndec (fun _ => ?_) (fun _ => ?_) <;> try (exfalso; omega)) | (refine branch_dec (fun _ => ?_) (fun _ => ?_) <;> try (exfalso; omega)) | (refine branch_ndec (fun _ => ?_) (fun _ => ?_) <;> try (exfalso; omega)) | refine guard_nbool (fun _ => ?_) (fun _ => ?_) | refine branch_nbool (fun _ => ?_) (fun _ => ?_) | refine guard_bool (fun _ => ?_) (fun _ => ?_) | refine branch_bool (fun _ => ?_) (fun _ => ?_))
        refine ⟨p.rules.length - (i + 1), by omega, i + 1, .free h5.tn, 8, rowsR ++ [rrow { y with kindNo := N, expr := bareE N y.expr } tok4 sz4 rows4], by omega, rfl, (by first | trivial | (simp; done) | (simp; omega)), (by first | trivial | (simp; done) | (simp; omega)), (by first | trivial | (simp; done) | (simp; omega)), (by first | trivial | (simp; done) | (simp; omega)), (by first | trivial | (simp; done) | (simp; omega)), (by first | trivial | (simp; done) | (simp; omega)), (by first | trivial | (simp; done) | (simp; omega)), (by first | trivial | (simp; done) | (simp; omega)), (by first | trivial | (simp; done) | (simp; omega)), ?_, ?_, ?_, ?_, ?_, ?_, ?_, .inl rfl, ?_, ?_⟩
        · rw [put_other (by omega), app_boxes, put_other (by omega)]; exact e1
        · rw [put_other (by omega), app_boxes, put_other (by omega)]; exact en
        · rw [put_other (by omega), app_boxes, put_other (by omega)]; exact e2
        · rw [put_other (by omega), app_boxes, put_other (by omega)]; exact ef
        · exact put_this (by rw [app_boxes, put_len]; exact le3)
        · obtain ⟨hj, rfl⟩ := List.getElem?_eq_some_iff.1 hy
          rw [List.take_succ_eq_append_getElem hj, bareR_snoc]
          exact RRows.snoc khrr.out (RRow.mk khr5.out)
        · exact kca5.out.next (h := h5.put h'.boxes.length _) (kx5.out.ok kok'.out) (kx.out.trans kx5.out).tn
        · exact (((kx.out.trans kx5.out).put_new (by omega) _).app (h := h5.put h'.boxes.length _) kca5.out).put_new (by omega) _
        · exact (Mut.app (b := 0) (h := h5.put h'.boxes.length _) kca5.out).ok (kx5.out.ok kok'.out)
    · have hie : i = p.rules.length := by omega
      subst hie
      have hlt3 : ¬ ((p.rules.length : Int) < (p.rules.length : Int)) := by omega
      rw [List.take_length] at khrr
      obtain ⟨tok4, sz4, rows4, h5, c5, hx5, hr5⟩ := bare1_ev N (h.boxes.length + 1) (h.boxes.length + 1 + 1 + 1) p.change t.tok t.sz t.rows kok.out.expr kfew.out.c h' kok'.out hbn hbf
      have e2 := hx5.box _ _ hb2
      have e3 := hx5.box _ _ hb3
      have kx5 := Keep.mk hx5
      have khr5 := Keep.mk hr5
      have le2 := (List.getElem?_eq_some_iff.1 e2).1
      have le3 := (List.getElem?_eq_some_iff.1 e3).1
      clear hx5 hr5
      repeat' (first | simp (config := { maxSteps := 4000000 }) (disch := first | assumption | (exact Nat.le_refl _) | omega | (simp only [List.length_cons, List.length_nil, List.length_append, push_len, put_len, len_app] <;> omega) | (simp (disch := (first | assumption | omega | (exact (push_len _ _).symm) | (simp only [push_len, put_len, len_app]; omega) | (refine Nat.le_antisymm ?_ ?_ <;> simp only [push_len, put_len, len_app] <;> omega) | fail)) only [get_push_last, get_push_eq, get_push_ne, get_put_eq, get_put_ne, get_app] <;> first | assumption | rfl) | (simp only [canApp_push, canApp_put]; assumption) | (exact start_round _ _) | (simp only [st_round, dfr_round, pn_round]; first | assumption | exact start_round _ _) | fail) only [goS, plainEv, resultsEv, resultListEv, reduceIte, Nat.reduceEqDiff, Option.map_some, Option.map_none, Option.bind_some, List.map_cons, List.map_nil, List.getD_cons_zero, List.getD_cons_succ, List.getElem?_toArray, List.getElem?_cons_zero, List.getElem?_cons_succ, eq_self, beq_self_eq_true, goH, List.append_nil, List.nil_append, rs22, fp28, fp43, prs, rrs, load28, load28_4, store28, store28_3, store28_4, push_len, put_put, p5, cell_one, List.cons_append, List.nil_append, *] | (refine guard_dec (fun _ => ?_) (fun _ => ?_) <;> try (exfalso; omega)) | (refine guard_ndec (fun _ => ?_) (fun _ => ?_) <;> try (exfalso; omega)) | (refine branch_dec (fun _ => ?_) (fun _ => ?_) <;> try (exfalso; omega)) | (refine branch_ndec (fun _ => ?_) (fun _ => ?_) <;> try (exfalso; omega)) | refine guard_nbool (fun _ => ?_) (fun _ => ?_) | refine branch_nbool (fun _ => ?_) (fun _ => ?_) | refine guard_bool (fun _ => ?_) (fun _ => ?_) | refine branch_bool (fun _ => ?_) (fun _ => ?_))
      refine ⟨_, _, rfl, { t with tr := tokR, sr := szR, rr := rowsR, tok := tok4, sz := sz4, rows := rows4 }, rfl, ((kx.out.trans kx5.out).put_new (b := h.boxes.length + 1 + 1 + 1 + 1) (by omega) _).put_new (b := h.boxes.length + 1 + 1) (by omega) _, ?_⟩
      exact bareP_ok kok.out khrr.out khr5.out ksr.out
  · refine ⟨0, .nil, 0, [], Nat.zero_le _, rfl, ?_, ?_, ?_, ?_, ?_, ?_, ?_, ?_, ?_, ?_, ?_, ?_, ?_, ?_, ?_, ?_, .inr ⟨rfl, rfl⟩, ?_, ?_⟩
    iterate 9
      · simp only [goS, plainEv, resultsEv, resultListEv, reduceIte, Nat.reduceEqDiff, Option.map_some, Option.map_none, Option.bind_some, List.map_cons, List.map_nil, List.getD_cons_zero, List.getD_cons_succ, List.getElem?_toArray, List.getElem?_cons_zero, List.getElem?_cons_succ, eq_self, beq_self_eq_true, goH, hlen] <;> rfl
    iterate 5
      · simp (disch := (first | assumption | omega | (exact (push_len _ _).symm) | (simp only [push_len, put_len, len_app]; omega) | (refine Nat.le_antisymm ?_ ?_ <;> simp only [push_len, put_len, len_app] <;> omega) | fail)) only [get_push_last, get_push_eq, get_push_ne, get_put_eq, get_put_ne, get_app]
    · exact RRows.nil
    · exact .inl rfl
    · exact ((((Ext.push _ _).trans (.push _ _)).trans (.push _ _)).trans (.push _ _)).trans (.push _ _)
    · exact kokh.out
end Go.Proofs.YtilmhlbjjfgeoaaDoor
end

section
namespace Go.Proofs.YtilmhlbjjfgeoaaDoor
open Go.AE Go.Lex Go.Pol
/-! ### PoliciesTwice -/
theorem alike_bareP (n : Int) (p : Po) : AlikeP (bareP n p) p := by
  refine ⟨rfl, rfl, rfl, rfl, alike_bare _ _, by simp [bareP, bareR], fun i x y hx hy => ?_⟩
  have hx : (bareR n p.rules)[i]? = some x := hx
  unfold bareR at hx
  rw [List.getElem?_map, hy] at hx
  simp only [Option.map_some, Option.some.injEq] at hx
  subst hx
  exact ⟨rfl, rfl, alike_bare _ _⟩
theorem AlikeP.resF {p q : Po} (h : AlikeP p q) : resolveF p = resolveF q := by
  unfold resolveF
  rw [h.small, h.names, h.formed, h.res]
theorem resF_ok {p : Po} (h : (resolveF p).2 = 0) : resolveF p = (resP p, 0) := by
  unfold resolveF at h ⊢
  split at h <;> try exact absurd h (by decide)
  split at h <;> try exact absurd h (by decide)
  split at h <;> try exact absurd h (by decide)
  rename_i q1 q2 q3
  rw [if_neg q1, if_neg q2, if_neg q3]
theorem sameP_symm (p q : Po) : sameP p q = sameP q p := by
  rw [Bool.eq_iff_iff, sameP_iff, sameP_iff]
  exact ⟨Eq.symm, Eq.symm⟩
theorem check_bare {n : Int} {p : Po} (h : codeP p = 0) : checkP (bareP n p) = if sameP (bareP n p) (resP p) = true then 0 else 200 := by
  unfold checkP
  rw [(alike_bareP n p).code, if_pos h, (alike_bareP n p).res, sameP_symm]
theorem few_resF {p : Po} (h : fewP p = true) (h0 : codeP p = 0) : PFew (resP p) := few_few ((alike_resP p).symm.few1 h)
theorem few_bare {p : Po} (n : Int) (h : fewP p = true) : PFew (bareP n p) := few_few ((alike_bareP n p).symm.few1 h)
theorem u4b : Tryd.prog.underlying 4 = some .bool := by kernel_rfl
theorem rs6 : Tryd.f6.results.toList = [.tmp 4] := by kernel_rfl
end Go.Proofs.YtilmhlbjjfgeoaaDoor
end

section
namespace Go.Proofs.YtilmhlbjjfgeoaaDoor
open Go.AE Go.Lex Go.Pol
/-! ### leads: what the numbers lead to -/
def leadsH (o : List (List UInt8)) (kk no : Int) (name : List UInt8) : Bool := if kk = 1 ∨ kk = 2 then (decide (0 ≤ no) && (decide (no < (o.length : Int)) && decide (o[no.toNat]? = some name))) else decide (no = 0)
mutual
def leadsE (o : List (List UInt8)) : Ex → Bool
  | .mk k _ no s l => leadsH o k no s && leadsL o l
def leadsL (o : List (List UInt8)) : List Ex → Bool
  | [] => true
  | x :: r => leadsE o x && leadsL o r
end
theorem leadsL_snoc (o : List (List UInt8)) (l : List Ex) (x : Ex) : leadsL o (l ++ [x]) = (leadsL o l && leadsE o x) := by
  induction l with
  | nil => rw [List.nil_append, leadsL, leadsL]; simp [leadsL]
  | cons y r ih => rw [List.cons_append, leadsL, leadsL, ih, Bool.and_assoc]
theorem rs21 : Tryd.f21.results.toList = [.cell 4 26, .tmp 5] := by kernel_rfl
def GivesLd (R : Rec) (g : FuncId) (args : List AV) (h : Heap) (x : Ex) (b : Bool) : Prop := ∃ tok sz rows h', R.call g args h = some (.ret (.tuple [.agg (row5 x.kind x.n x.no x.name tok sz rows), .v (.bool b)]), h') ∧ Ext h h' ∧ Row x (row5 x.kind x.n x.no x.name tok sz rows)
theorem strs_at {o : List (List UInt8)} {i : Nat} {s : List UInt8} (h : o[i]? = some s) : (strs o)[i]? = some [.v (.string (bs s))] := by
  induction o generalizing i with
  | nil => simp at h
  | cons a o ih =>
    cases i with
    | zero => simp at h; subst h; rfl
    | succ i => simp at h; exact ih h
/-- The cases of an expression's own number. -/
theorem leads_cases (o : List (List UInt8)) (kk no : Int) (name : List UInt8) :
    ((decide (kk = 1) = false ∧ decide (kk = 2) = false) ∧ leadsH o kk no name = decide (no = 0)) ∨
    (((decide (kk = 1) = true ∧ decide (kk = 2) = false) ∨ (decide (kk = 1) = false ∧ decide (kk = 2) = true)) ∧
      ((decide (0 ≤ no) = false ∧ leadsH o kk no name = false) ∨ (decide (0 ≤ no) = true ∧ decide (no < (o.length : Int)) = false ∧ leadsH o kk no name = false) ∨
       (decide (0 ≤ no) = true ∧ decide (no < (o.length : Int)) = true ∧ ∃ s, (strs o)[no.toNat]? = some [.v (.string (bs s))] ∧ leadsH o kk no name = decide (s = name)))) := by
  unfold leadsH
  by_cases q : kk = 1 ∨ kk = 2
  · right
    refine ⟨by rcases q with q | q <;> subst q <;> simp, ?_⟩
    simp only [if_pos q]
    by_cases a : 0 ≤ no
    · by_cases b : no < (o.length : Int)
      · right; right
        have hl : no.toNat < o.length := by omega
        have hg : o[no.toNat]? = some o[no.toNat] := List.getElem?_eq_getElem hl
        refine ⟨by simpa using a, by simpa using b, o[no.toNat], strs_at hg, ?_⟩
        rw [hg]
        simp [a, b]
      · right; left
        exact ⟨by simpa using a, by simpa using b, by simp [b]⟩
    · left
      exact ⟨by simpa using a, by simp [a]⟩
  · left
    rw [if_neg q]
    simp only [not_or] at q
    exact ⟨⟨by simpa using q.1, by simpa using q.2⟩, rfl⟩
set_option maxHeartbeats 16000000 in
set_option maxRecDepth 100000 in
theorem leads_ev (tk : Tok) (so : Nat) (o : List (List UInt8)) (hz : ∀ i : Nat, i < o.length → so = 1) (hl : o.length ≤ 9223372036854775807) : ∀ (x : Ex) (tok : Tok) (sz : Nat) (rows : List (List AV)), Row x (row5 x.kind x.n x.no x.name tok sz rows) → cnt x ≤ 1000 → ∀ h, okHeap h = true →
    GivesLd W 21 [.list tk so (strs o), .agg (row5 x.kind x.n x.no x.name tok sz rows)] h (bareE 0 x) (leadsE o x) := by
  intro x
  induction x using Ex.ind with
  | h kk nn no name l ih =>
    intro tok sz rows hrow hcn h hok
    obtain ⟨hrows, hsz, hbd⟩ := Row.got hrow
    have ux := Tryd.underlying24; have u22 := Tryd.underlying22; have u9 := Tryd.underlying9
    have a3 := ag3; have a9 := ag9; have a22 := ag22; have a24 := ag24; have a26 := ag26; have s26 := sz26; have s3 := sz3; have s24 := sz24; have z26 := zc26; have s9 := sz9
    have hlen := hrows.1
    have hso := strs_len o
    simp only [Ex.kind, Ex.n, Ex.no, Ex.name, Ex.l] at hrows hsz hlen hbd ⊢
    have kr := Keep.mk hrows
    have kz := Keep.mk hsz
    have kih := Keep.mk ih
    have kcn := Keep.mk hcn
    have kok := Keep.mk hok
    have hcases := leads_cases o kk no name
    have kho := Keep.mk hz
    clear hrows hsz ih hz
    rw [bareE, leadsE]
    suffices hs : ∃ r h', W.call 21 [.list tk so (strs o), .agg (row5 kk nn no name tok sz rows)] h = some (r, h') ∧ (∃ tok' sz' rows', r = .ret (.tuple [.agg (row5 kk nn 0 name tok' sz' rows'), .v (.bool (leadsH o kk no name && leadsL o l))]) ∧ Ext h h' ∧ Row (.mk kk nn 0 name (bareL 0 l)) (row5 kk nn 0 name tok' sz' rows')) by
      obtain ⟨r, h', q1, tok', sz', rows', rfl, q2, q3⟩ := hs
      exact ⟨tok', sz', rows', h', q1, q2, q3⟩
    refine call_post rfl Tryd.func21 rfl ?_
    generalize leadsH o kk no name = hd at hcases ⊢
    rcases hcases with ⟨⟨d1, d2⟩, hq⟩ | ⟨⟨d1, d2⟩ | ⟨d1, d2⟩, ⟨d3, hq⟩ | ⟨d3, d4, hq⟩ | ⟨d3, d4, s, d5, hq⟩⟩
    all_goals
      try (have d3 := of_decide_eq_true d3)
      try (have d4 := of_decide_eq_true d4)
      try (have s9o : sizeB Tryd.prog 9 = some so := by rw [kho.out no.toNat (by omega)]; exact sz9)
      have khq := Keep.mk hq
      clear hq
      repeat' (first | simp (config := { maxSteps := 4000000 }) (disch := first | assumption | (exact Nat.le_refl _) | omega | (simp only [List.length_cons, List.length_nil, List.length_append, push_len, put_len, len_app] <;> omega) | (simp (disch := (first | assumption | omega | (exact (push_len _ _).symm) | (simp only [push_len, put_len, len_app]; omega) | (refine Nat.le_antisymm ?_ ?_ <;> simp only [push_len, put_len, len_app] <;> omega) | fail)) only [get_push_last, get_push_eq, get_push_ne, get_put_eq, get_put_ne, get_app] <;> first | assumption | rfl) | (simp only [canApp_push, canApp_put]; assumption) | (exact start_round _ _) | (simp only [st_round, dfr_round, pn_round]; first | assumption | exact start_round _ _) | fail) only [goS, plainEv, resultsEv, resultListEv, reduceIte, Nat.reduceEqDiff, Option.map_some, Option.map_none, Option.bind_some, List.map_cons, List.map_nil, List.getD_cons_zero, List.getD_cons_succ, List.getElem?_toArray, List.getElem?_cons_zero, List.getElem?_cons_succ, eq_self, beq_self_eq_true, goH, List.append_nil, List.nil_append, rs21, row5_cells, row5_0, row5_2, row5_3, row5_4, row5_all, fa26_0, fa26_2, fa26_3, fa26_4, load26, store26, store26_2, store26_4, put_push_eq, put_push_ne, push_len, index_list, load_row, cell_one, Bool.true_or, Bool.or_true, Bool.or_false, *] | (refine guard_dec (fun _ => ?_) (fun _ => ?_) <;> try (exfalso; omega)) | (refine guard_ndec (fun _ => ?_) (fun _ => ?_) <;> try (exfalso; omega)) | (refine branch_dec (fun _ => ?_) (fun _ => ?_) <;> try (exfalso; omega)) | (refine branch_ndec (fun _ => ?_) (fun _ => ?_) <;> try (exfalso; omega)) | refine run_draw (by kernel_rfl) ?_ | refine guard_nbool (fun _ => ?_) (fun _ => ?_) | refine branch_nbool (fun _ => ?_) (fun _ => ?_) | refine guard_bool (fun _ => ?_) (fun _ => ?_) | refine branch_bool (fun _ => ?_) (fun _ => ?_))
      refine run_loop (fun m e h' => ∃ (i : Nat) (tokR : Tok) (szR : Nat) (rowsR : List (List AV)), i ≤ l.length ∧ m = l.length - i ∧ e.get 0 = .list tk so (strs o) ∧ e.get 4 = .ptr (.box (h.boxes.length + 1)) 0 ∧ e.get 5 = .v (.bool (hd && leadsL o (l.take i))) ∧ e.get 46 = .list tok sz rows ∧ e.get 47 = .v (.int .i64 (l.length : Nat)) ∧ e.get 48 = .v (.int .i64 i) ∧ e.defers = [] ∧
        h'.boxes[h.boxes.length + 1]? = some (row5 kk nn 0 name tokR szR rowsR) ∧ Pol.Rows (bareL 0 (l.take i)) rowsR ∧ CanApp h.tn h' tokR ∧ (szR = 5 ∨ (rowsR = [] ∧ tokR = .nil)) ∧ Ext h h' ∧ okHeap h' = true) ?_ l.length _ _ ?_
      rotate_left
      · refine ⟨0, .nil, 0, [], Nat.zero_le _, rfl, ?_, ?_, ?_, ?_, ?_, ?_, ?_, ?_, ?_, .inl rfl, .inr ⟨rfl, rfl⟩, ?_, kok.out⟩
        · simp only [goS, plainEv, resultsEv, resultListEv, reduceIte, Nat.reduceEqDiff, Option.map_some, Option.map_none, Option.bind_some, List.map_cons, List.map_nil, List.getD_cons_zero, List.getD_cons_succ, List.getElem?_toArray, List.getElem?_cons_zero, List.getElem?_cons_succ, eq_self, beq_self_eq_true, goH] <;> rfl
        · simp only [goS, plainEv, resultsEv, resultListEv, reduceIte, Nat.reduceEqDiff, Option.map_some, Option.map_none, Option.bind_some, List.map_cons, List.map_nil, List.getD_cons_zero, List.getD_cons_succ, List.getElem?_toArray, List.getElem?_cons_zero, List.getElem?_cons_succ, eq_self, beq_self_eq_true, goH]
        · simp only [goS, plainEv, resultsEv, resultListEv, reduceIte, Nat.reduceEqDiff, Option.map_some, Option.map_none, Option.bind_some, List.map_cons, List.map_nil, List.getD_cons_zero, List.getD_cons_succ, List.getElem?_toArray, List.getElem?_cons_zero, List.getElem?_cons_succ, eq_self, beq_self_eq_true, goH] <;> rw [khq.out, List.take_zero, leadsL, Bool.and_true]
        · simp only [goS, plainEv, resultsEv, resultListEv, reduceIte, Nat.reduceEqDiff, Option.map_some, Option.map_none, Option.bind_some, List.map_cons, List.map_nil, List.getD_cons_zero, List.getD_cons_succ, List.getElem?_toArray, List.getElem?_cons_zero, List.getElem?_cons_succ, eq_self, beq_self_eq_true, goH]
        · simp only [goS, plainEv, resultsEv, resultListEv, reduceIte, Nat.reduceEqDiff, Option.map_some, Option.map_none, Option.bind_some, List.map_cons, List.map_nil, List.getD_cons_zero, List.getD_cons_succ, List.getElem?_toArray, List.getElem?_cons_zero, List.getElem?_cons_succ, eq_self, beq_self_eq_true, goH]
        · simp only [goS, plainEv, resultsEv, resultListEv, reduceIte, Nat.reduceEqDiff, Option.map_some, Option.map_none, Option.bind_some, List.map_cons, List.map_nil, List.getD_cons_zero, List.getD_cons_succ, List.getElem?_toArray, List.getElem?_cons_zero, List.getElem?_cons_succ, eq_self, beq_self_eq_true, goH] <;> rfl
        · simp only [goS, plainEv, resultsEv, resultListEv, reduceIte, Nat.reduceEqDiff, Option.map_some, Option.map_none, Option.bind_some, List.map_cons, List.map_nil, List.getD_cons_zero, List.getD_cons_succ, List.getElem?_toArray, List.getElem?_cons_zero, List.getElem?_cons_succ, eq_self, beq_self_eq_true, goH]
        · simp (disch := (first | assumption | omega | (exact (push_len _ _).symm) | (simp only [push_len, put_len, len_app]; omega) | (refine Nat.le_antisymm ?_ ?_ <;> simp only [push_len, put_len, len_app] <;> omega) | fail)) only [get_push_last, get_push_eq, get_push_ne, get_put_eq, get_put_ne, get_app]
        · rw [List.take_zero, bareL_map]; exact Pol.Rows.nil
        · exact ((Ext.push _ _).trans (.push _ _))
      · rintro m e h' ⟨i, tokR, szR, rowsR, hi, rfl, g0, g4, g5, g46, g47, g48, hdf, hb3, hrr, hca, hsr, hx, hok'⟩
        have hrl := hrr.1
        have khrr := Keep.mk hrr
        have kx := Keep.mk hx
        have kca := Keep.mk hca
        have ksr := Keep.mk hsr
        have kok' := Keep.mk hok'
        clear hrr hx hca hsr hok'
        by_cases hlt : i < l.length
        · obtain ⟨y, r, hy, hr, hyr⟩ := kr.out.get hlt
          have h5 := kz.out i hlt
          subst h5
          obtain ⟨tk2, sz2, rows2, rfl, -⟩ := Row.five hyr
          have hlt3 : (i : Int) < (rows.length : Int) := by rw [hlen]; omega
          have hlt4 : (i : Int) < (l.length : Int) := by omega
          have hle5 : 5 ≤ ((row5 y.kind y.n y.no y.name tk2 sz2 rows2).drop 0).length := by rw [List.drop_zero]; exact Nat.le_refl _
          have hcy : cnt y ≤ 1000 := by have := cntL_mem (List.mem_of_getElem? hy); have := kcn.out; rw [cnt] at this; omega
          have hll : l.length ≤ 1000 := by have := cntL_len l; have := kcn.out; rw [cnt] at this; omega
          obtain ⟨tok4, sz4, rows4, h4, c4, hx4, hr4⟩ := kih.out y (List.mem_of_getElem? hy) tk2 sz2 rows2 hyr hcy (h'.push (row5 y.kind y.n y.no y.name tk2 sz2 rows2)) kok'.out
          have hrl2 : rowsR.length ≤ 70000 := by rw [hrl, bareL_map, List.length_map, List.length_take]; omega
          have kx4 := Keep.mk (((Ext.push h' (row5 y.kind y.n y.no y.name tk2 sz2 rows2)).trans hx4).trans (.push _ (row5 (bareE 0 y).kind (bareE 0 y).n (bareE 0 y).no (bareE 0 y).name tok4 sz4 rows4)))
          have kca4 := Keep.mk (kca.out.ext kx4.out)
          have happ := app_ex (h := h4.push (row5 (bareE 0 y).kind (bareE 0 y).n (bareE 0 y).no (bareE 0 y).name tok4 sz4 rows4)) (r := row5 (bareE 0 y).kind (bareE 0 y).n (bareE 0 y).no (bareE 0 y).name tok4 sz4 rows4) (kca4.out.mono (Nat.zero_le _)) ksr.out hrl2
          have e3 := hx4.box _ _ (push_old hb3)
          have n3 := (List.getElem?_eq_some_iff.1 e3).1
          have n1 : h.boxes.length + 1 ≠ h'.boxes.length := by have := (List.getElem?_eq_some_iff.1 hb3).1; omega
          have khr4 := Keep.mk hr4
          have hacc : leadsL o (l.take (i + 1)) = (leadsL o (l.take i) && leadsE o y) := by
            obtain ⟨hj, rfl⟩ := List.getElem?_eq_some_iff.1 hy
            rw [List.take_succ_eq_append_getElem hj, leadsL_snoc]
          have kacc := Keep.mk hacc
          clear hx4 hr4 hacc
          generalize hA : (hd && leadsL o (l.take i)) = A at g5
          have kA := Keep.mk hA
          clear hA
          generalize hB : leadsE o y = B at c4
          have kB := Keep.mk hB
          clear hB
          cases A <;> cases B
          all_goals
            repeat' (first | simp (config := { maxSteps := 4000000 }) (disch := first | assumption | (exact Nat.le_refl _) | omega | (simp only [List.length_cons, List.length_nil, List.length_append, push_len, put_len, len_app] <;> omega) | (simp (disch := (first | assumption | omega | (exact (push_len _ _).symm) | (simp only [push_len, put_len, len_app]; omega) | (refine Nat.le_antisymm ?_ ?_ <;> simp only [push_len, put_len, len_app] <;> omega) | fail)) only [get_push_last, get_push_eq, get_push_ne, get_put_eq, get_put_ne, get_app] <;> first | assumption | rfl) | (simp only [canApp_push, canApp_put]; assumption) | (exact start_round _ _) | (simp only [st_round, dfr_round, pn_round]; first | assumption | exact start_round _ _) | fail) only [goS, plainEv, resultsEv, resultListEv, reduceIte, Nat.reduceEqDiff, Option.map_some, Option.map_none, Option.bind_some, List.map_cons, List.map_nil, List.getD_cons_zero, List.getD_cons_succ, List.getElem?_toArray, List.getElem?_cons_zero, List.getElem?_cons_succ, eq_self, beq_self_eq_true, goH, List.append_nil, List.nil_append, rs21, row5_4, fa26_4, load26, store26, store26_4, index_list, load_row_agg, row5_all, build24, put_push_eq, put_push_ne, push_len, cell_one, *] | (refine guard_dec (fun _ => ?_) (fun _ => ?_) <;> try (exfalso; omega)) | (refine guard_ndec (fun _ => ?_) (fun _ => ?_) <;> try (exfalso; omega)) | (refine branch_dec (fun _ => ?_) (fun _ => ?_) <;> try (exfalso; omega)) | (refine branch_ndec (fun _ => ?_) (fun _ => ?_) <;> try (exfalso; omega)) | refine guard_nbool (fun _ => ?_) (fun _ => ?_) | refine branch_nbool (fun _ => ?_) (fun _ => ?_) | refine guard_bool (fun _ => ?_) (fun _ => ?_) | refine branch_bool (fun _ => ?_) (fun _ => ?_))
            refine ⟨l.length - (i + 1), by omega, i + 1, .free h4.tn, 5, rowsR ++ [row5 (bareE 0 y).kind (bareE 0 y).n (bareE 0 y).no (bareE 0 y).name tok4 sz4 rows4], by omega, rfl, (by first | trivial | (simp; done) | (simp; omega)), (by first | trivial | (simp; done) | (simp; omega)), ?_, (by first | trivial | (simp; done) | (simp; omega)), (by first | trivial | (simp; done) | (simp; omega)), (by first | trivial | (simp; done) | (simp; omega)), (by first | trivial | (simp; done) | (simp; omega)), ?_, ?_, ?_, .inl rfl, ?_, ?_⟩
            · rw [kacc.out, ← Bool.and_assoc, kA.out, kB.out]; rfl
            · exact put_this (by rw [app_boxes]; exact Nat.lt_of_lt_of_le n3 (by simp only [push_len]; omega))
            · obtain ⟨hj, rfl⟩ := List.getElem?_eq_some_iff.1 hy
              rw [bareL_map, List.take_succ_eq_append_getElem hj, List.map_append, ← bareL_map]
              exact Pol.Rows.snoc khrr.out khr4.out
            · exact kca4.out.next (kx4.out.ok kok'.out) (kx.out.trans kx4.out).tn
            · exact ((kx.out.trans kx4.out).app kca4.out).put_new (by omega) _
            · exact (Mut.app (b := 0) kca4.out).ok (kx4.out.ok kok'.out)
        · have hie : i = l.length := by omega
          subst hie
          have hlt3 : ¬ ((l.length : Int) < (l.length : Int)) := by omega
          rw [List.take_length] at khrr g5
          have e2l := (List.getElem?_eq_some_iff.1 hb3).1
          repeat' (first | simp (config := { maxSteps := 4000000 }) (disch := first | assumption | (exact Nat.le_refl _) | omega | (simp only [List.length_cons, List.length_nil, List.length_append, push_len, put_len, len_app] <;> omega) | (simp (disch := (first | assumption | omega | (exact (push_len _ _).symm) | (simp only [push_len, put_len, len_app]; omega) | (refine Nat.le_antisymm ?_ ?_ <;> simp only [push_len, put_len, len_app] <;> omega) | fail)) only [get_push_last, get_push_eq, get_push_ne, get_put_eq, get_put_ne, get_app] <;> first | assumption | rfl) | (simp only [canApp_push, canApp_put]; assumption) | (exact start_round _ _) | (simp only [st_round, dfr_round, pn_round]; first | assumption | exact start_round _ _) | fail) only [goS, plainEv, resultsEv, resultListEv, reduceIte, Nat.reduceEqDiff, Option.map_some, Option.map_none, Option.bind_some, List.map_cons, List.map_nil, List.getD_cons_zero, List.getD_cons_succ, List.getElem?_toArray, List.getElem?_cons_zero, List.getElem?_cons_succ, eq_self, beq_self_eq_true, goH, List.append_nil, List.nil_append, rs21, row5_4, fa26_4, load26, store26, *] | (refine guard_dec (fun _ => ?_) (fun _ => ?_) <;> try (exfalso; omega)) | (refine guard_ndec (fun _ => ?_) (fun _ => ?_) <;> try (exfalso; omega)) | (refine branch_dec (fun _ => ?_) (fun _ => ?_) <;> try (exfalso; omega)) | (refine branch_ndec (fun _ => ?_) (fun _ => ?_) <;> try (exfalso; omega)) | refine guard_nbool (fun _ => ?_) (fun _ => ?_) | refine branch_nbool (fun _ => ?_) (fun _ => ?_) | refine guard_bool (fun _ => ?_) (fun _ => ?_) | refine branch_bool (fun _ => ?_) (fun _ => ?_))
          refine ⟨_, _, rfl, tokR, szR, rowsR, rfl, kx.out.put_new (b := h.boxes.length + 1) (by omega) _, ?_⟩
          refine .mk _ _ _ _ _ _ _ _ khrr.out.1 (fun i hi => ?_) (by rw [bareL_map, List.length_map]; exact hbd) khrr.out.2
          rcases ksr.out with q | ⟨q, -⟩
          · exact q
          · exfalso; have := khrr.out.1; rw [q] at this; simp at this; omega
end Go.Proofs.YtilmhlbjjfgeoaaDoor
end

section
namespace Go.Proofs.YtilmhlbjjfgeoaaDoor
open Go.AE Go.Lex Go.Pol
/-! ### PoliciesMean -/
theorem first_of {o : List (List UInt8)} {s : List UInt8} (h : s ∈ o) : ∃ k : Nat, o[k]? = some s ∧ ∀ j, j < k → o[j]? ≠ some s := by
  induction o with
  | nil => cases h
  | cons a o ih =>
    by_cases q : a = s
    · exact ⟨0, by simp [q], fun j hj => absurd hj (Nat.not_lt_zero j)⟩
    · obtain ⟨k, hk, hno⟩ := ih (by rcases List.mem_cons.1 h with e | e; exact absurd e.symm q; exact e)
      refine ⟨k + 1, by simpa using hk, fun j hj => ?_⟩
      cases j with
      | zero => simpa using q
      | succ j => simpa using hno j (by omega)
theorem idx_pos {o : List (List UInt8)} {s : List UInt8} (h : ¬ idx o s < 0) : idx o s < (o.length : Int) ∧ o[(idx o s).toNat]? = some s := by
  by_cases hm : s ∈ o
  · obtain ⟨k, hk, hno⟩ := first_of hm
    have := (List.getElem?_eq_some_iff.1 hk).1
    rw [idx_hit hk hno]
    exact ⟨by omega, by simpa using hk⟩
  · exfalso
    apply h
    rw [idx_miss (fun j hj q => hm (List.mem_of_getElem? q))]
    decide
theorem leads_res (o : List (List UInt8)) : (∀ x, namedE o x = true → leadsE o (resE o x) = true) ∧ ∀ l, namedL o l = true → leadsL o (resL o l) = true := by
  refine Ex.ind2 (fun k n no s l ih => ?_) ?_ (fun x r h1 h2 => ?_)
  · intro h
    rw [namedE, Bool.and_eq_true] at h
    rw [resE, leadsE, Bool.and_eq_true]
    refine ⟨?_, ih h.2⟩
    unfold leadsH
    by_cases q : k = 1 ∨ k = 2
    · rw [if_pos q, if_pos q]
      have h1 : ¬ idx o s < 0 := by
        intro w
        have := h.1
        rcases q with q | q <;> simp [q, w] at this
      obtain ⟨a, b⟩ := idx_pos h1
      simp only [Bool.and_eq_true, decide_eq_true_eq]
      exact ⟨by omega, a, b⟩
    · rw [if_neg q, if_neg q]; rfl
  · intro _; rw [resL, leadsL]
  · intro h
    rw [namedL, Bool.and_eq_true] at h
    rw [resL, leadsL, Bool.and_eq_true]
    exact ⟨h1 h.1, h2 h.2⟩
theorem resR_get {o : List (List UInt8)} {l : List Rl} {i : Nat} {x : Rl} (h : (resR o l)[i]? = some x) : ∃ z, l[i]? = some z ∧ x = { z with kindNo := (i : Int), expr := resE o z.expr } := by
  unfold resR at h
  rw [List.getElem?_mapIdx] at h
  cases q : l[i]? with
  | none => rw [q] at h; cases h
  | some z => rw [q] at h; injection h with h; exact ⟨z, rfl, h.symm⟩
theorem code_named {p : Po} (h : codeP p = 0) : namesP p = true ∧ formedP p = true := by
  rw [codeP_eq] at h
  split at h <;> try exact absurd h (by decide)
  split at h <;> try exact absurd h (by decide)
  split at h <;> try exact absurd h (by decide)
  rename_i q1 q2 q3
  exact ⟨by simpa using q2, by simpa using q3⟩
theorem mean_rule {p : Po} (h : codeP p = 0) {i : Nat} {x : Rl} (hx : (resP p).rules[i]? = some x) : x.kindNo = (i : Int) ∧ i < p.kinds.length ∧ p.kinds[i]? = some x.kind ∧ leadsE p.offices x.expr = true := by
  obtain ⟨hn, hf⟩ := code_named h
  obtain ⟨z, hz, rfl⟩ := resR_get hx
  have f := (formed_iff.1 hf).2.2.2.1 i z hz
  unfold headOk at f
  simp only [Bool.and_eq_true, decide_eq_true_eq] at f
  refine ⟨rfl, (List.getElem?_eq_some_iff.1 f.1).1, f.1, ?_⟩
  exact (leads_res p.offices).1 _ ((names_iff.1 hn).2.2.2 _ (List.mem_of_getElem? (exprs_rule hz)))
theorem mean_change {p : Po} (h : codeP p = 0) : leadsE p.offices (resP p).change = true := (leads_res p.offices).1 _ ((names_iff.1 (code_named h).1).2.2.2 _ (List.mem_of_getElem? (exprs_last p)))
theorem bare_resP (n : Int) (p : Po) : bareP n (resP p) = bareP n p := by
  have hr : bareR n (resR p.offices p.rules) = bareR n p.rules := by
    unfold bareR resR
    refine List.ext_getElem? fun i => ?_
    rw [List.getElem?_map, List.getElem?_map, List.getElem?_mapIdx]
    cases p.rules[i]? with
    | none => rfl
    | some z => simp only [Option.map_some, (bare_res n p.offices).1]
  show ({ resP p with rules := bareR n (resR p.offices p.rules), change := bareE n (resE p.offices p.change) } : Po) = _
  rw [hr, (bare_res n p.offices).1]
  rfl
theorem resF_no {p : Po} (h : codeP p ≠ 0) : (resolveF p).1 = zP ∧ (codeP p = 2 ∨ codeP p = 201 ∨ codeP p = 200) := by
  have hc : codeP p = (resolveF p).2 := rfl
  rw [hc] at h ⊢
  unfold resolveF at h ⊢
  split
  · exact ⟨rfl, .inl rfl⟩
  · split
    · exact ⟨rfl, .inr (.inl rfl)⟩
    · split
      · exact ⟨rfl, .inr (.inr rfl)⟩
      · rename_i q1 q2 q3
        rw [if_neg q1, if_neg q2, if_neg q3] at h
        exact absurd rfl h
theorem rs5 : Tryd.f5.results.toList = [.tmp 2] := by kernel_rfl
set_option maxHeartbeats 32000000 in
set_option maxRecDepth 100000 in
theorem policiesMean_law (p : Po) (t : PT) (ok : POk p t) : ∃ h', W.call 5 [.agg (prow p t)] Heap.init = some (.ret (.v (.bool true)), h') ∧ True := by
  have u22 := Tryd.underlying22; have u23 := Tryd.underlying23; have u9 := Tryd.underlying9
  have a3 := ag3; have a9 := ag9; have a22 := ag22; have a23 := ag23; have a26 := ag26; have a43 := ag43; have s9 := sz9; have s43 := sz43; have s26 := sz26; have z43 := zc43'; have z26 := zc26
  have a28 := ag28; have z28 := zc28; have s28 := sz28; have z4 := u4b
  obtain ⟨h1, c1, x1⟩ := sane_ev (Heap.init.push (prow p t)) rfl
  obtain ⟨h2, c2, x2⟩ := fewP_ev p t ok h1
  have b1 := x1.box _ _ (push_last Heap.init (prow p t))
  have b2 := x2.box _ _ b1
  refine call_ex rfl Tryd.func5 rfl ?_
  cases hf : fewP p with
  | false =>
    rw [hf] at c2
    clear x1 x2
    repeat' (first | simp (config := { maxSteps := 4000000 }) (disch := first | assumption | (exact Nat.le_refl _) | omega | (simp only [List.length_cons, List.length_nil, List.length_append, push_len, put_len, len_app] <;> omega) | (simp (disch := (first | assumption | omega | (exact (push_len _ _).symm) | (simp only [push_len, put_len, len_app]; omega) | (refine Nat.le_antisymm ?_ ?_ <;> simp only [push_len, put_len, len_app] <;> omega) | fail)) only [get_push_last, get_push_eq, get_push_ne, get_put_eq, get_put_ne, get_app] <;> first | assumption | rfl) | (simp only [canApp_push, canApp_put]; assumption) | (exact start_round _ _) | (simp only [st_round, dfr_round, pn_round]; first | assumption | exact start_round _ _) | fail) only [goS, plainEv, resultsEv, resultListEv, reduceIte, Nat.reduceEqDiff, Option.map_some, Option.map_none, Option.bind_some, List.map_cons, List.map_nil, List.getD_cons_zero, List.getD_cons_succ, List.getElem?_toArray, List.getElem?_cons_zero, List.getElem?_cons_succ, eq_self, beq_self_eq_true, goH, List.append_nil, List.nil_append, rs5, prs, load28, *] | (refine guard_dec (fun _ => ?_) (fun _ => ?_) <;> try (exfalso; omega)) | (refine guard_ndec (fun _ => ?_) (fun _ => ?_) <;> try (exfalso; omega)) | (refine branch_dec (fun _ => ?_) (fun _ => ?_) <;> try (exfalso; omega)) | (refine branch_ndec (fun _ => ?_) (fun _ => ?_) <;> try (exfalso; omega)) | refine guard_nbool (fun _ => ?_) (fun _ => ?_) | refine branch_nbool (fun _ => ?_) (fun _ => ?_) | refine guard_bool (fun _ => ?_) (fun _ => ?_) | refine branch_bool (fun _ => ?_) (fun _ => ?_))
    exact ⟨_, rfl, trivial⟩
  | true =>
    rw [hf] at c2
    have few := few_few hf
    have o2 : okHeap h2 = true := x2.ok (x1.ok rfl)
    obtain ⟨t3, h3, c3, x3, ok3⟩ := resolveP_ev p t ok few h2 o2
    have p3 := x3.box _ _ b2
    have np3 := (List.getElem?_eq_some_iff.1 p3).1
    have o3 := x3.ok o2
    by_cases hc : codeP p = 0
    · have hr : resolveF p = (resP p, 0) := resF_ok hc
      simp only [hr] at c3 ok3
      obtain ⟨h4, c4, x4⟩ := fewP_ev (resP p) t3 ok3 (h3.push (prow (resP p) t3))
      rw [(alike_resP p).symm.few1 hf] at c4
      have hl1 := ok.rules.1
      have hl3 : t3.rr.length = p.rules.length := by rw [ok3.rules.1]; simp [resP, resR]
      have p4 := x4.box _ _ (push_old (cs := prow (resP p) t3) p3)
      have q4 := x4.box _ _ (push_last h3 (prow (resP p) t3))
      have np4 := (List.getElem?_eq_some_iff.1 p4).1
      have nq4 := (List.getElem?_eq_some_iff.1 q4).1
      have o4 := x4.ok (show okHeap (h3.push (prow (resP p) t3)) = true from o3)
      have kok := Keep.mk ok
      have kok3 := Keep.mk ok3
      have kp4 := Keep.mk p4
      have kq4 := Keep.mk q4
      have kfew := Keep.mk few
      have kfr := Keep.mk (few_resF hf hc)
      have ko4 := Keep.mk o4
      have kc := Keep.mk hc
      clear x1 x2 x3 x4 few o2 o3 o4 ok ok3 hf hr hc
      repeat' (first | simp (config := { maxSteps := 4000000 }) (disch := first | assumption | (exact Nat.le_refl _) | omega | (simp only [List.length_cons, List.length_nil, List.length_append, push_len, put_len, len_app] <;> omega) | (simp (disch := (first | assumption | omega | (exact (push_len _ _).symm) | (simp only [push_len, put_len, len_app]; omega) | (refine Nat.le_antisymm ?_ ?_ <;> simp only [push_len, put_len, len_app] <;> omega) | fail)) only [get_push_last, get_push_eq, get_push_ne, get_put_eq, get_put_ne, get_app] <;> first | assumption | rfl) | (simp only [canApp_push, canApp_put]; assumption) | (exact start_round _ _) | (simp only [st_round, dfr_round, pn_round]; first | assumption | exact start_round _ _) | fail) only [goS, plainEv, resultsEv, resultListEv, reduceIte, Nat.reduceEqDiff, Option.map_some, Option.map_none, Option.bind_some, List.map_cons, List.map_nil, List.getD_cons_zero, List.getD_cons_succ, List.getElem?_toArray, List.getElem?_cons_zero, List.getElem?_cons_succ, eq_self, beq_self_eq_true, goH, List.append_nil, List.nil_append, rs5, fp28, prs, load28, store28, put_push_eq, *] | (refine guard_dec (fun _ => ?_) (fun _ => ?_) <;> try (exfalso; omega)) | (refine guard_ndec (fun _ => ?_) (fun _ => ?_) <;> try (exfalso; omega)) | (refine branch_dec (fun _ => ?_) (fun _ => ?_) <;> try (exfalso; omega)) | (refine branch_ndec (fun _ => ?_) (fun _ => ?_) <;> try (exfalso; omega)) | refine guard_nbool (fun _ => ?_) (fun _ => ?_) | refine branch_nbool (fun _ => ?_) (fun _ => ?_) | refine guard_bool (fun _ => ?_) (fun _ => ?_) | refine branch_bool (fun _ => ?_) (fun _ => ?_))
      refine run_loop (fun m e h' => ∃ (i : Nat), i ≤ p.rules.length ∧ m = p.rules.length - i ∧ e.get 1 = .ptr (.box Heap.init.boxes.length) 0 ∧ e.get 3 = .ptr (.box h3.boxes.length) 0 ∧ e.get 51 = .list t3.tr t3.sr t3.rr ∧ e.get 52 = .v (.int .i64 (p.rules.length : Nat)) ∧ e.get 53 = .v (.int .i64 i) ∧ e.defers = [] ∧ Ext h4 h' ∧ okHeap h' = true) ?_ p.rules.length _ _ ?_
      · rintro m e h' ⟨i, hi, rfl, g1, g3, g51, g52, g53, hd, hx, hok'⟩
        have kx := Keep.mk hx
        have pp5 := kx.out.box _ _ kp4.out
        have q5 := kx.out.box _ _ kq4.out
        have np5 := (List.getElem?_eq_some_iff.1 pp5).1
        have nq5 := (List.getElem?_eq_some_iff.1 q5).1
        clear hx c1 c2 c3 c4
        by_cases hlt : i < p.rules.length
        · obtain ⟨x, tk2, sz2, rows2, hy, hry, hyr⟩ := RRows.get kok3.out.rules (i := i) (by rw [← kok3.out.rules.1, hl3]; exact hlt)
          obtain ⟨hk, hkl, hkk, hld⟩ := mean_rule kc.out hy
          have h8 := kok3.out.zr i (by rw [← kok3.out.rules.1, hl3]; exact hlt)
          have hsk := kok.out.zk i hkl
          have hkg := strs_at hkk
          have hslen := strs_len p.kinds
          have hll := kfew.out.l
          have hcx := (kfr.out.r x (List.mem_of_getElem? hy))
          obtain ⟨tok5, sz5, rows5, h5, c5, x5, r5'⟩ := leads_ev t.to t.so p.offices kok.out.zo kok.out.bo x.expr tk2 sz2 rows2 hyr hcx (h'.push (rrow x tk2 sz2 rows2)) hok'
          rw [hld] at c5
          have kx5 := Keep.mk ((Ext.push h' (rrow x tk2 sz2 rows2)).trans x5)
          have e5 := x5.box _ _ (push_last h' (rrow x tk2 sz2 rows2))
          have p6 := kx5.out.box _ _ pp5
          have q6 := kx5.out.box _ _ q5
          have ne5 := (List.getElem?_eq_some_iff.1 e5).1
          have np6 := (List.getElem?_eq_some_iff.1 p6).1
          have hlt3 : (i : Int) < (t3.rr.length : Int) := by rw [hl3]; omega
          have hlt4 : (i : Int) < (p.rules.length : Int) := by omega
          have hlt5 : (i : Int) < ((strs p.kinds).length : Int) := by rw [hslen]; omega
          have rf8 := @rrow_fit8 x tk2 sz2 rows2
          have kok5 := Keep.mk (kx5.out.ok hok')
          have s9o : sizeB Tryd.prog 9 = some t.sk := by rw [hsk]; exact sz9
          obtain ⟨xk, xn, xt, xe⟩ := x
          obtain rfl : xn = (i : Int) := hk
          clear x5 hy hld hsk
          repeat' (first | simp (config := { maxSteps := 4000000 }) (disch := first | assumption | (exact Nat.le_refl _) | omega | (simp only [List.length_cons, List.length_nil, List.length_append, push_len, put_len, len_app] <;> omega) | (simp (disch := (first | assumption | omega | (exact (push_len _ _).symm) | (simp only [push_len, put_len, len_app]; omega) | (refine Nat.le_antisymm ?_ ?_ <;> simp only [push_len, put_len, len_app] <;> omega) | fail)) only [get_push_last, get_push_eq, get_push_ne, get_put_eq, get_put_ne, get_app] <;> first | assumption | rfl) | (simp only [canApp_push, canApp_put]; assumption) | (exact start_round _ _) | (simp only [st_round, dfr_round, pn_round]; first | assumption | exact start_round _ _) | fail) only [goS, plainEv, resultsEv, resultListEv, reduceIte, Nat.reduceEqDiff, Option.map_some, Option.map_none, Option.bind_some, List.map_cons, List.map_nil, List.getD_cons_zero, List.getD_cons_succ, List.getElem?_toArray, List.getElem?_cons_zero, List.getElem?_cons_succ, eq_self, beq_self_eq_true, goH, List.append_nil, List.nil_append, rs5, fp28, fp43, prs, rrs, load28, load43, load43_3, store43, store26, index_list, load_row, load_row_agg, cell_one, put_push_eq, put_push_ne, push_len, r5, *] | (refine guard_dec (fun _ => ?_) (fun _ => ?_) <;> try (exfalso; omega)) | (refine guard_ndec (fun _ => ?_) (fun _ => ?_) <;> try (exfalso; omega)) | (refine branch_dec (fun _ => ?_) (fun _ => ?_) <;> try (exfalso; omega)) | (refine branch_ndec (fun _ => ?_) (fun _ => ?_) <;> try (exfalso; omega)) | refine run_draw (by kernel_rfl) ?_ | refine guard_nbool (fun _ => ?_) (fun _ => ?_) | refine branch_nbool (fun _ => ?_) (fun _ => ?_) | refine guard_bool (fun _ => ?_) (fun _ => ?_) | refine branch_bool (fun _ => ?_) (fun _ => ?_))
          exact ⟨p.rules.length - (i + 1), by omega, i + 1, by omega, rfl, (by first | trivial | (simp; done) | (simp; omega)), (by first | trivial | (simp; done) | (simp; omega)), (by first | trivial | (simp; done) | (simp; omega)), (by first | trivial | (simp; done) | (simp; omega)), (by first | trivial | (simp; done) | (simp; omega)), (by first | trivial | (simp; done) | (simp; omega)), (kx.out.trans kx5.out).trans (.push _ _), kok5.out⟩
        · have hie : i = p.rules.length := by omega
          subst hie
          have hlt4 : ¬ ((p.rules.length : Int) < (p.rules.length : Int)) := by omega
          obtain ⟨tok5, sz5, rows5, h5, c5, x5, -⟩ := leads_ev t.to t.so p.offices kok.out.zo kok.out.bo (resP p).change t3.tok t3.sz t3.rows kok3.out.expr kfr.out.c h' hok'
          rw [mean_change kc.out] at c5
          have o5 : okHeap (h5.push (row5 (bareE 0 (resP p).change).kind (bareE 0 (resP p).change).n (bareE 0 (resP p).change).no (bareE 0 (resP p).change).name tok5 sz5 rows5)) = true := x5.ok hok'
          obtain ⟨t6, h6, c6, x6, ok6⟩ := bare_ev 0 (resP p) t3 kok3.out kfr.out _ o5
          obtain ⟨t7, h7, c7, x7, ok7⟩ := bare_ev 0 p t kok.out kfew.out h6 (x6.ok o5)
          rw [bare_resP] at c6 ok6
          obtain ⟨h8, c8, x8⟩ := same_ev (bareP 0 p) (bareP 0 p) t6 t7 ok6 ok7 h7
          rw [sameP_iff.2 rfl] at c8
          have p6 := x5.box _ _ pp5
          have q6 := x5.box _ _ q5
          have p7 := x6.box _ _ (push_old p6)
          have q7 := x6.box _ _ (push_old q6)
          have np6 := (List.getElem?_eq_some_iff.1 p6).1
          have nq6 := (List.getElem?_eq_some_iff.1 q6).1
          have ks := Keep.mk (pol_same kok.out)
          generalize bareP 0 p = b at *
          clear x5 x6 x7 x8 ok6 ok7 o5
          repeat' (first | simp (config := { maxSteps := 4000000 }) (disch := first | assumption | (exact Nat.le_refl _) | omega | (simp only [List.length_cons, List.length_nil, List.length_append, push_len, put_len, len_app] <;> omega) | (simp (disch := (first | assumption | omega | (exact (push_len _ _).symm) | (simp only [push_len, put_len, len_app]; omega) | (refine Nat.le_antisymm ?_ ?_ <;> simp only [push_len, put_len, len_app] <;> omega) | fail)) only [get_push_last, get_push_eq, get_push_ne, get_put_eq, get_put_ne, get_app] <;> first | assumption | rfl) | (simp only [canApp_push, canApp_put]; assumption) | (exact start_round _ _) | (simp only [st_round, dfr_round, pn_round]; first | assumption | exact start_round _ _) | fail) only [goS, plainEv, resultsEv, resultListEv, reduceIte, Nat.reduceEqDiff, Option.map_some, Option.map_none, Option.bind_some, List.map_cons, List.map_nil, List.getD_cons_zero, List.getD_cons_succ, List.getElem?_toArray, List.getElem?_cons_zero, List.getElem?_cons_succ, eq_self, beq_self_eq_true, goH, List.append_nil, List.nil_append, rs5, fp28, prs, load28, load28_4, store26, put_push_eq, push_len, p5, *] | (refine guard_dec (fun _ => ?_) (fun _ => ?_) <;> try (exfalso; omega)) | (refine guard_ndec (fun _ => ?_) (fun _ => ?_) <;> try (exfalso; omega)) | (refine branch_dec (fun _ => ?_) (fun _ => ?_) <;> try (exfalso; omega)) | (refine branch_ndec (fun _ => ?_) (fun _ => ?_) <;> try (exfalso; omega)) | refine guard_nbool (fun _ => ?_) (fun _ => ?_) | refine branch_nbool (fun _ => ?_) (fun _ => ?_) | refine guard_bool (fun _ => ?_) (fun _ => ?_) | refine branch_bool (fun _ => ?_) (fun _ => ?_))
          refine run_draw_but [(3, 4)] (by kernel_rfl) ?_ ?_
          · intro pr hp
            simp only [List.mem_singleton] at hp
            subst hp
            refine stable_behind_g (x := .ptr (.box Heap.init.boxes.length) 0) (v := .agg (prow p t)) (by kernel_rfl) rfl rfl (by kernel_rfl) ks.out ?_ ?_
            · simp only [List.take_succ_cons, List.take_zero]
              repeat' (first | simp (config := { maxSteps := 4000000 }) (disch := first | assumption | (exact Nat.le_refl _) | omega | (simp only [List.length_cons, List.length_nil, List.length_append, push_len, put_len, len_app] <;> omega) | (simp (disch := (first | assumption | omega | (exact (push_len _ _).symm) | (simp only [push_len, put_len, len_app]; omega) | (refine Nat.le_antisymm ?_ ?_ <;> simp only [push_len, put_len, len_app] <;> omega) | fail)) only [get_push_last, get_push_eq, get_push_ne, get_put_eq, get_put_ne, get_app] <;> first | assumption | rfl) | (simp only [canApp_push, canApp_put]; assumption) | (exact start_round _ _) | (simp only [st_round, dfr_round, pn_round]; first | assumption | exact start_round _ _) | fail) only [goS, plainEv, resultsEv, resultListEv, reduceIte, Nat.reduceEqDiff, Option.map_some, Option.map_none, Option.bind_some, List.map_cons, List.map_nil, List.getD_cons_zero, List.getD_cons_succ, List.getElem?_toArray, List.getElem?_cons_zero, List.getElem?_cons_succ, eq_self, beq_self_eq_true, goH, List.append_nil, List.nil_append, load28, *] | (refine guard_dec (fun _ => ?_) (fun _ => ?_) <;> try (exfalso; omega)) | (refine guard_ndec (fun _ => ?_) (fun _ => ?_) <;> try (exfalso; omega)) | (refine branch_dec (fun _ => ?_) (fun _ => ?_) <;> try (exfalso; omega)) | (refine branch_ndec (fun _ => ?_) (fun _ => ?_) <;> try (exfalso; omega)) | refine guard_nbool (fun _ => ?_) (fun _ => ?_) | refine branch_nbool (fun _ => ?_) (fun _ => ?_) | refine guard_bool (fun _ => ?_) (fun _ => ?_) | refine branch_bool (fun _ => ?_) (fun _ => ?_))
              refine ⟨by trivial, ?_, by trivial, by trivial⟩
              simp [wantedA, st_get]
            · simp only [List.take_succ_cons, List.take_zero]
              repeat' (first | simp (config := { maxSteps := 4000000 }) (disch := first | assumption | (exact Nat.le_refl _) | omega | (simp only [List.length_cons, List.length_nil, List.length_append, push_len, put_len, len_app] <;> omega) | (simp (disch := (first | assumption | omega | (exact (push_len _ _).symm) | (simp only [push_len, put_len, len_app]; omega) | (refine Nat.le_antisymm ?_ ?_ <;> simp only [push_len, put_len, len_app] <;> omega) | fail)) only [get_push_last, get_push_eq, get_push_ne, get_put_eq, get_put_ne, get_app] <;> first | assumption | rfl) | (simp only [canApp_push, canApp_put]; assumption) | (exact start_round _ _) | (simp only [st_round, dfr_round, pn_round]; first | assumption | exact start_round _ _) | fail) only [goS, plainEv, resultsEv, resultListEv, reduceIte, Nat.reduceEqDiff, Option.map_some, Option.map_none, Option.bind_some, List.map_cons, List.map_nil, List.getD_cons_zero, List.getD_cons_succ, List.getElem?_toArray, List.getElem?_cons_zero, List.getElem?_cons_succ, eq_self, beq_self_eq_true, goH, List.append_nil, List.nil_append, load28, *] | (refine guard_dec (fun _ => ?_) (fun _ => ?_) <;> try (exfalso; omega)) | (refine guard_ndec (fun _ => ?_) (fun _ => ?_) <;> try (exfalso; omega)) | (refine branch_dec (fun _ => ?_) (fun _ => ?_) <;> try (exfalso; omega)) | (refine branch_ndec (fun _ => ?_) (fun _ => ?_) <;> try (exfalso; omega)) | refine guard_nbool (fun _ => ?_) (fun _ => ?_) | refine branch_nbool (fun _ => ?_) (fun _ => ?_) | refine guard_bool (fun _ => ?_) (fun _ => ?_) | refine branch_bool (fun _ => ?_) (fun _ => ?_))
              exact ⟨by trivial, by trivial⟩
          · repeat' (first | simp (config := { maxSteps := 4000000 }) (disch := first | assumption | (exact Nat.le_refl _) | omega | (simp only [List.length_cons, List.length_nil, List.length_append, push_len, put_len, len_app] <;> omega) | (simp (disch := (first | assumption | omega | (exact (push_len _ _).symm) | (simp only [push_len, put_len, len_app]; omega) | (refine Nat.le_antisymm ?_ ?_ <;> simp only [push_len, put_len, len_app] <;> omega) | fail)) only [get_push_last, get_push_eq, get_push_ne, get_put_eq, get_put_ne, get_app] <;> first | assumption | rfl) | (simp only [canApp_push, canApp_put]; assumption) | (exact start_round _ _) | (simp only [st_round, dfr_round, pn_round]; first | assumption | exact start_round _ _) | fail) only [goS, plainEv, resultsEv, resultListEv, reduceIte, Nat.reduceEqDiff, Option.map_some, Option.map_none, Option.bind_some, List.map_cons, List.map_nil, List.getD_cons_zero, List.getD_cons_succ, List.getElem?_toArray, List.getElem?_cons_zero, List.getElem?_cons_succ, eq_self, beq_self_eq_true, goH, List.append_nil, List.nil_append, rs5, fp28, prs, load28, load28_4, store26, put_push_eq, push_len, p5, *] | (refine guard_dec (fun _ => ?_) (fun _ => ?_) <;> try (exfalso; omega)) | (refine guard_ndec (fun _ => ?_) (fun _ => ?_) <;> try (exfalso; omega)) | (refine branch_dec (fun _ => ?_) (fun _ => ?_) <;> try (exfalso; omega)) | (refine branch_ndec (fun _ => ?_) (fun _ => ?_) <;> try (exfalso; omega)) | refine guard_nbool (fun _ => ?_) (fun _ => ?_) | refine branch_nbool (fun _ => ?_) (fun _ => ?_) | refine guard_bool (fun _ => ?_) (fun _ => ?_) | refine branch_bool (fun _ => ?_) (fun _ => ?_))
            exact ⟨_, rfl, trivial⟩
      · refine ⟨0, Nat.zero_le _, rfl, ?_, ?_, ?_, ?_, ?_, ?_, Ext.refl _, ko4.out⟩ <;> simp only [goS, plainEv, resultsEv, resultListEv, reduceIte, Nat.reduceEqDiff, Option.map_some, Option.map_none, Option.bind_some, List.map_cons, List.map_nil, List.getD_cons_zero, List.getD_cons_succ, List.getElem?_toArray, List.getElem?_cons_zero, List.getElem?_cons_succ, eq_self, beq_self_eq_true, goH, hl3] <;> rfl
    · obtain ⟨hz, hcs⟩ := resF_no hc
      have hcc : (resolveF p).2 = codeP p := rfl
      rw [hz] at c3 ok3
      rw [hcc] at c3
      obtain ⟨h4, c4, x4⟩ := same_ev zP zP t3 zT ok3 zOk (h3.push (prow zP t3))
      rw [sameP_iff.2 rfl] at c4
      clear x1 x2 x3 x4 few o2 o3 ok ok3 hf hz hcc
      generalize codeP p = k at c3 hc hcs
      rcases hcs with rfl | rfl | rfl
      all_goals
        repeat' (first | simp (config := { maxSteps := 4000000 }) (disch := first | assumption | (exact Nat.le_refl _) | omega | (simp only [List.length_cons, List.length_nil, List.length_append, push_len, put_len, len_app] <;> omega) | (simp (disch := (first | assumption | omega | (exact (push_len _ _).symm) | (simp only [push_len, put_len, len_app]; omega) | (refine Nat.le_antisymm ?_ ?_ <;> simp only [push_len, put_len, len_app] <;> omega) | fail)) only [get_push_last, get_push_eq, get_push_ne, get_put_eq, get_put_ne, get_app] <;> first | assumption | rfl) | (simp only [canApp_push, canApp_put]; assumption) | (exact start_round _ _) | (simp only [st_round, dfr_round, pn_round]; first | assumption | exact start_round _ _) | fail) only [goS, plainEv, resultsEv, resultListEv, reduceIte, Nat.reduceEqDiff, Option.map_some, Option.map_none, Option.bind_some, List.map_cons, List.map_nil, List.getD_cons_zero, List.getD_cons_succ, List.getElem?_toArray, List.getElem?_cons_zero, List.getElem?_cons_succ, eq_self, beq_self_eq_true, goH, List.append_nil, List.nil_append, rs5, prs, load28, store28, put_push_eq, build28, *] | (refine guard_dec (fun _ => ?_) (fun _ => ?_) <;> try (exfalso; omega)) | (refine guard_ndec (fun _ => ?_) (fun _ => ?_) <;> try (exfalso; omega)) | (refine branch_dec (fun _ => ?_) (fun _ => ?_) <;> try (exfalso; omega)) | (refine branch_ndec (fun _ => ?_) (fun _ => ?_) <;> try (exfalso; omega)) | refine guard_nbool (fun _ => ?_) (fun _ => ?_) | refine branch_nbool (fun _ => ?_) (fun _ => ?_) | refine guard_bool (fun _ => ?_) (fun _ => ?_) | refine branch_bool (fun _ => ?_) (fun _ => ?_))
        exact ⟨_, rfl, trivial⟩
end Go.Proofs.YtilmhlbjjfgeoaaDoor
end
