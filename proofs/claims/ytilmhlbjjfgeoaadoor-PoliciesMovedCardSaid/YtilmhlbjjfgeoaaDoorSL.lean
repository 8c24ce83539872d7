/-
  Part of the proof: SL.
-/
import Derived.Test.YtilmhlbjjfgeoaaDoorSI
set_option linter.unusedSimpArgs false
set_option linter.unusedVariables false
set_option linter.constructorNameAsVariable false
section
namespace Go.Proofs.YtilmhlbjjfgeoaaDoor
open Go.AE Go.Lex Go.Pol
/-! ### bare: the same policy, with other numbers -/
theorem rs50 : Tryd.f50.results.toList = [.cell 4 26] := by kernel_rfl
theorem rs22 : Tryd.f22.results.toList = [.cell 4 28] := by kernel_rfl
theorem ag66 : isAggB Tryd.prog 66 = some false := by kernel_rfl
theorem sz66 : sizeB Tryd.prog 66 = some 1 := by kernel_rfl
theorem zc66 : (zeroA Tryd.prog 66).bind AV.cellsO = some [.v .nilFunc] := by kernel_rfl
theorem store66 {h : Heap} {b : Nat} {x : AV} {g : Fn} {ts cs : List AV} (hb : h.boxes[b]? = some [x]) : storeEv Tryd.prog h 66 (.ptr (.box b) 0) (.func g ts cs) = some (h.put b [.func g ts cs]) := store_box (off := 0) (cs := [x]) (xs := [.func g ts cs]) rfl sz66 hb rfl (Nat.le_refl 1)
set_option maxHeartbeats 8000000 in
set_option maxRecDepth 100000 in
theorem bare1_ev (N : Int) (bm bf : Nat) : ∀ (x : Ex) (tok : Tok) (sz : Nat) (rows : List (List AV)), Row x (row5 x.kind x.n x.no x.name tok sz rows) → cnt x ≤ 1000 → ∀ h, okHeap h = true → h.boxes[bm]? = some [.v (.int .i64 N)] → h.boxes[bf]? = some [.func (.func 50) [] [.ptr (.box bm) 0, .ptr (.box bf) 0]] →
    GivesEx W 50 [.agg (row5 x.kind x.n x.no x.name tok sz rows), .ptr (.box bm) 0, .ptr (.box bf) 0] h (bareE N x) := by
  intro x
  induction x using Ex.ind with
  | h kk nn no name l ih =>
    intro tok sz rows hrow hcn h hok hbm hbf
    obtain ⟨hrows, hsz, hbd⟩ := Row.got hrow
    have ux := Tryd.underlying24
    have a3 := ag3; have a9 := ag9; have a24 := ag24; have a26 := ag26; have s26 := sz26; have s3 := sz3; have s24 := sz24; have z26 := zc26; have a66 := ag66
    have hlen := hrows.1
    simp only [Ex.kind, Ex.n, Ex.no, Ex.name, Ex.l] at hrows hsz hlen hbd ⊢
    have kr := Keep.mk hrows
    have kz := Keep.mk hsz
    have kih := Keep.mk ih
    have kcn := Keep.mk hcn
    have kok := Keep.mk hok
    have kbm := Keep.mk hbm
    have kbf := Keep.mk hbf
    have m1 := (List.getElem?_eq_some_iff.1 hbm).1
    have m2 := (List.getElem?_eq_some_iff.1 hbf).1
    clear hrows hsz ih
    rw [bareE]
    suffices hs : ∃ r h', W.call 50 [.agg (row5 kk nn no name tok sz rows), .ptr (.box bm) 0, .ptr (.box bf) 0] h = some (r, h') ∧ (∃ tok' sz' rows', r = .ret (.agg (row5 kk nn N name tok' sz' rows')) ∧ Ext h h' ∧ Row (.mk kk nn N name (bareL N l)) (row5 kk nn N name tok' sz' rows')) by
      obtain ⟨r, h', q1, tok', sz', rows', rfl, q2, q3⟩ := hs
      exact ⟨tok', sz', rows', h', q1, q2, q3⟩
    refine call_post rfl Tryd.func50 rfl ?_
    repeat' (first | simp (config := { maxSteps := 4000000 }) (disch := first | assumption | (exact Nat.le_refl _) | omega | (simp only [List.length_cons, List.length_nil, List.length_append, push_len, put_len, len_app] <;> omega) | (simp (disch := (first | assumption | omega | (exact (push_len _ _).symm) | (simp only [push_len, put_len, len_app]; omega) | (refine Nat.le_antisymm ?_ ?_ <;> simp only [push_len, put_len, len_app] <;> omega) | fail)) only [get_push_last, get_push_eq, get_push_ne, get_put_eq, get_put_ne, get_app] <;> first | assumption | rfl) | (simp only [canApp_push, canApp_put]; assumption) | (exact start_round _ _) | (simp only [st_round, dfr_round, pn_round]; first | assumption | exact start_round _ _) | fail) only [goS, plainEv, resultsEv, resultListEv, reduceIte, Nat.reduceEqDiff, Option.map_some, Option.map_none, Option.bind_some, List.map_cons, List.map_nil, List.getD_cons_zero, List.getD_cons_succ, List.getElem?_toArray, List.getElem?_cons_zero, List.getElem?_cons_succ, eq_self, beq_self_eq_true, goH, List.append_nil, List.nil_append, rs50, row5_cells, row5_0, row5_3, row5_4, row5_all, fa26_0, fa26_2, fa26_3, fa26_4, load26, store26, store26_2, store26_4, put_push_eq, put_push_ne, push_len, cell_one, List.cons_append, List.nil_append, *] | (refine guard_dec (fun _ => ?_) (fun _ => ?_) <;> try (exfalso; omega)) | (refine guard_ndec (fun _ => ?_) (fun _ => ?_) <;> try (exfalso; omega)) | (refine branch_dec (fun _ => ?_) (fun _ => ?_) <;> try (exfalso; omega)) | (refine branch_ndec (fun _ => ?_) (fun _ => ?_) <;> try (exfalso; omega)) | refine guard_nbool (fun _ => ?_) (fun _ => ?_) | refine branch_nbool (fun _ => ?_) (fun _ => ?_) | refine guard_bool (fun _ => ?_) (fun _ => ?_) | refine branch_bool (fun _ => ?_) (fun _ => ?_))
    refine run_loop (fun m e h' => ∃ (i : Nat) (tokR : Tok) (szR : Nat) (rowsR : List (List AV)), i ≤ l.length ∧ m = l.length - i ∧ e.get 2 = .ptr (.box bf) 0 ∧ e.get 4 = .ptr (.box (h.boxes.length + 1)) 0 ∧ e.get 5 = .ptr (.box (h.boxes.length + 1 + 1)) 0 ∧ e.get 13 = .list tok sz rows ∧ e.get 14 = .v (.int .i64 (l.length : Nat)) ∧ e.get 15 = .v (.int .i64 i) ∧ e.defers = [] ∧
      h'.boxes[h.boxes.length + 1]? = some (row5 0 0 0 [] .nil 0 []) ∧ h'.boxes[h.boxes.length + 1 + 1]? = some (row5 kk nn N name tokR szR rowsR) ∧ Pol.Rows (bareL N (l.take i)) rowsR ∧ CanApp h.tn h' tokR ∧ (szR = 5 ∨ (rowsR = [] ∧ tokR = .nil)) ∧ Ext h h' ∧ okHeap h' = true) ?_ l.length _ _ ?_
    · rintro m e h' ⟨i, tokR, szR, rowsR, hi, rfl, g2, g4, g5, g13, g14, g15, hd, hb2, hb3, hrr, hca, hsr, hx, hok'⟩
      have hrl := hrr.1
      have khrr := Keep.mk hrr
      have kx := Keep.mk hx
      have kca := Keep.mk hca
      have ksr := Keep.mk hsr
      have kok' := Keep.mk hok'
      clear hrr hx hca hsr hok' hbm hbf
      by_cases hlt : i < l.length
      · obtain ⟨y, r, hy, hr, hyr⟩ := kr.out.get hlt
        have h5 := kz.out i hlt
        subst h5
        obtain ⟨tk2, sz2, rows2, rfl, -⟩ := Row.five hyr
        have hlt3 : (i : Int) < (rows.length : Int) := by rw [hlen]; omega
        have hlt4 : (i : Int) < (l.length : Int) := by omega
        have hle5 : 5 ≤ ((row5 y.kind y.n y.no y.name tk2 sz2 rows2).drop 0).length := by rw [List.drop_zero]; exact Nat.le_refl _
        have hcy : cnt y ≤ 1000 := by have := cntL_mem (List.mem_of_getElem? hy); have := kcn.out; rw [cnt] at this; omega
        have hll : l.length ≤ 1000 := by have := cntL_len l; have := kcn.out; rw [cnt] at this; omega
        have hbf := push_old (cs := row5 y.kind y.n y.no y.name tk2 sz2 rows2) (kx.out.box _ _ kbf.out)
        obtain ⟨tok4, sz4, rows4, h4, c4, hx4, hr4⟩ := kih.out y (List.mem_of_getElem? hy) tk2 sz2 rows2 hyr hcy (h'.push (row5 y.kind y.n y.no y.name tk2 sz2 rows2)) kok'.out (push_old (kx.out.box _ _ kbm.out)) hbf
        have hrl2 : rowsR.length ≤ 70000 := by rw [hrl, bareL_map, List.length_map, List.length_take]; omega
        have kca4 := Keep.mk (kca.out.ext ((Ext.push h' (row5 y.kind y.n y.no y.name tk2 sz2 rows2)).trans hx4))
        have happ := app_ex (h := h4) (r := row5 (bareE N y).kind (bareE N y).n (bareE N y).no (bareE N y).name tok4 sz4 rows4) (kca4.out.mono (Nat.zero_le _)) ksr.out hrl2
        have e2 := hx4.box _ _ (push_old hb2)
        have e3 := hx4.box _ _ (push_old hb3)
        have kx4 := Keep.mk ((Ext.push h' (row5 y.kind y.n y.no y.name tk2 sz2 rows2)).trans hx4)
        have khr4 := Keep.mk hr4
        have n1 : h.boxes.length + 1 + 1 ≠ h'.boxes.length := by have := (List.getElem?_eq_some_iff.1 hb3).1; omega
        have n2 : h.boxes.length + 1 ≠ h'.boxes.length := by have := (List.getElem?_eq_some_iff.1 hb2).1; omega
        clear hx4 hr4
        repeat' (first | simp (config := { maxSteps := 4000000 }) (disch := first | assumption | (exact Nat.le_refl _) | omega | (simp only [List.length_cons, List.length_nil, List.length_append, push_len, put_len, len_app] <;> omega) | (simp (disch := (first | assumption | omega | (exact (push_len _ _).symm) | (simp only [push_len, put_len, len_app]; omega) | (refine Nat.le_antisymm ?_ ?_ <;> simp only [push_len, put_len, len_app] <;> omega) | fail)) only [get_push_last, get_push_eq, get_push_ne, get_put_eq, get_put_ne, get_app] <;> first | assumption | rfl) | (simp only [canApp_push, canApp_put]; assumption) | (exact start_round _ _) | (simp only [st_round, dfr_round, pn_round]; first | assumption | exact start_round _ _) | fail) only [goS, plainEv, resultsEv, resultListEv, reduceIte, Nat.reduceEqDiff, Option.map_some, Option.map_none, Option.bind_some, List.map_cons, List.map_nil, List.getD_cons_zero, List.getD_cons_succ, List.getElem?_toArray, List.getElem?_cons_zero, List.getElem?_cons_succ, eq_self, beq_self_eq_true, goH, List.append_nil, List.nil_append, rs50, row5_4, fa26_4, load26, store26, store26_4, index_list, load_row_agg, row5_all, put_push_eq, put_push_ne, push_len, cell_one, List.cons_append, List.nil_append, *] | (refine guard_dec (fun _ => ?_) (fun _ => ?_) <;> try (exfalso; omega)) | (refine guard_ndec (fun _ => ?_) (fun _ => ?_) <;> try (exfalso; omega)) | (refine branch_dec (fun _ => ?_) (fun _ => ?_) <;> try (exfalso; omega)) | (refine branch_ndec (fun _ => ?_) (fun _ => ?_) <;> try (exfalso; omega)) | refine guard_nbool (fun _ => ?_) (fun _ => ?_) | refine branch_nbool (fun _ => ?_) (fun _ => ?_) | refine guard_bool (fun _ => ?_) (fun _ => ?_) | refine branch_bool (fun _ => ?_) (fun _ => ?_))
        refine run_draw_but [(1, 4)] (by kernel_rfl) ?_ ?_
        · intro p hp
          simp only [List.mem_singleton] at hp
          subst hp
          refine stable_before (x := .ptr (.box (h.boxes.length + 1 + 1)) 4) (v := .list tokR szR rowsR) (by kernel_rfl) rfl rfl rfl (by kernel_rfl) (by rw [sameAV, sameTok_refl, Rows.same khrr.out]; simp) ?_ ?_
          · simp only [List.take_succ_cons, List.take_zero]
            repeat' (first | simp (config := { maxSteps := 4000000 }) (disch := first | assumption | (exact Nat.le_refl _) | omega | (simp only [List.length_cons, List.length_nil, List.length_append, push_len, put_len, len_app] <;> omega) | (simp (disch := (first | assumption | omega | (exact (push_len _ _).symm) | (simp only [push_len, put_len, len_app]; omega) | (refine Nat.le_antisymm ?_ ?_ <;> simp only [push_len, put_len, len_app] <;> omega) | fail)) only [get_push_last, get_push_eq, get_push_ne, get_put_eq, get_put_ne, get_app] <;> first | assumption | rfl) | (simp only [canApp_push, canApp_put]; assumption) | (exact start_round _ _) | (simp only [st_round, dfr_round, pn_round]; first | assumption | exact start_round _ _) | fail) only [goS, plainEv, resultsEv, resultListEv, reduceIte, Nat.reduceEqDiff, Option.map_some, Option.map_none, Option.bind_some, List.map_cons, List.map_nil, List.getD_cons_zero, List.getD_cons_succ, List.getElem?_toArray, List.getElem?_cons_zero, List.getElem?_cons_succ, eq_self, beq_self_eq_true, goH, List.append_nil, List.nil_append, fa26_4, row5_4, load26, cell_one, *] | (refine guard_dec (fun _ => ?_) (fun _ => ?_) <;> try (exfalso; omega)) | (refine guard_ndec (fun _ => ?_) (fun _ => ?_) <;> try (exfalso; omega)) | (refine branch_dec (fun _ => ?_) (fun _ => ?_) <;> try (exfalso; omega)) | (refine branch_ndec (fun _ => ?_) (fun _ => ?_) <;> try (exfalso; omega)) | refine guard_nbool (fun _ => ?_) (fun _ => ?_) | refine branch_nbool (fun _ => ?_) (fun _ => ?_) | refine guard_bool (fun _ => ?_) (fun _ => ?_) | refine branch_bool (fun _ => ?_) (fun _ => ?_))
            simp only [and_self]
          · simp only [List.take_succ_cons, List.take_zero]
            repeat' (first | simp (config := { maxSteps := 4000000 }) (disch := first | assumption | (exact Nat.le_refl _) | omega | (simp only [List.length_cons, List.length_nil, List.length_append, push_len, put_len, len_app] <;> omega) | (simp (disch := (first | assumption | omega | (exact (push_len _ _).symm) | (simp only [push_len, put_len, len_app]; omega) | (refine Nat.le_antisymm ?_ ?_ <;> simp only [push_len, put_len, len_app] <;> omega) | fail)) only [get_push_last, get_push_eq, get_push_ne, get_put_eq, get_put_ne, get_app] <;> first | assumption | rfl) | (simp only [canApp_push, canApp_put]; assumption) | (exact start_round _ _) | (simp only [st_round, dfr_round, pn_round]; first | assumption | exact start_round _ _) | fail) only [goS, plainEv, resultsEv, resultListEv, reduceIte, Nat.reduceEqDiff, Option.map_some, Option.map_none, Option.bind_some, List.map_cons, List.map_nil, List.getD_cons_zero, List.getD_cons_succ, List.getElem?_toArray, List.getElem?_cons_zero, List.getElem?_cons_succ, eq_self, beq_self_eq_true, goH, List.append_nil, List.nil_append, fa26_4, row5_4, load26, index_list, load_row_agg, row5_all, cell_one, List.cons_append, List.nil_append, *] | (refine guard_dec (fun _ => ?_) (fun _ => ?_) <;> try (exfalso; omega)) | (refine guard_ndec (fun _ => ?_) (fun _ => ?_) <;> try (exfalso; omega)) | (refine branch_dec (fun _ => ?_) (fun _ => ?_) <;> try (exfalso; omega)) | (refine branch_ndec (fun _ => ?_) (fun _ => ?_) <;> try (exfalso; omega)) | refine guard_nbool (fun _ => ?_) (fun _ => ?_) | refine branch_nbool (fun _ => ?_) (fun _ => ?_) | refine guard_bool (fun _ => ?_) (fun _ => ?_) | refine branch_bool (fun _ => ?_) (fun _ => ?_))
            simp only [and_self]
        · repeat' (first | simp (config := { maxSteps := 4000000 }) (disch := first | assumption | (exact Nat.le_refl _) | omega | (simp only [List.length_cons, List.length_nil, List.length_append, push_len, put_len, len_app] <;> omega) | (simp (disch := (first | assumption | omega | (exact (push_len _ _).symm) | (simp only [push_len, put_len, len_app]; omega) | (refine Nat.le_antisymm ?_ ?_ <;> simp only [push_len, put_len, len_app] <;> omega) | fail)) only [get_push_last, get_push_eq, get_push_ne, get_put_eq, get_put_ne, get_app] <;> first | assumption | rfl) | (simp only [canApp_push, canApp_put]; assumption) | (exact start_round _ _) | (simp only [st_round, dfr_round, pn_round]; first | assumption | exact start_round _ _) | fail) only [goS, plainEv, resultsEv, resultListEv, reduceIte, Nat.reduceEqDiff, Option.map_some, Option.map_none, Option.bind_some, List.map_cons, List.map_nil, List.getD_cons_zero, List.getD_cons_succ, List.getElem?_toArray, List.getElem?_cons_zero, List.getElem?_cons_succ, eq_self, beq_self_eq_true, goH, List.append_nil, List.nil_append, rs50, fa26_4, row5_4, load26, index_list, load_row_agg, row5_all, build24, store26_4, cell_one, List.cons_append, List.nil_append, *] | (refine guard_dec (fun _ => ?_) (fun _ => ?_) <;> try (exfalso; omega)) | (refine guard_ndec (fun _ => ?_) (fun _ => ?_) <;> try (exfalso; omega)) | (refine branch_dec (fun _ => ?_) (fun _ => ?_) <;> try (exfalso; omega)) | (refine branch_ndec (fun _ => ?_) (fun _ => ?_) <;> try (exfalso; omega)) | refine guard_nbool (fun _ => ?_) (fun _ => ?_) | refine branch_nbool (fun _ => ?_) (fun _ => ?_) | refine guard_bool (fun _ => ?_) (fun _ => ?_) | refine branch_bool (fun _ => ?_) (fun _ => ?_))
          have e3l := (List.getElem?_eq_some_iff.1 e3).1
          refine ⟨l.length - (i + 1), by omega, i + 1, .free h4.tn, 5, rowsR ++ [row5 (bareE N y).kind (bareE N y).n (bareE N y).no (bareE N y).name tok4 sz4 rows4], by omega, rfl, (by first | trivial | (simp; done) | (simp; omega)), (by first | trivial | (simp; done) | (simp; omega)), (by first | trivial | (simp; done) | (simp; omega)), (by first | trivial | (simp; done) | (simp; omega)), (by first | trivial | (simp; done) | (simp; omega)), (by first | trivial | (simp; done) | (simp; omega)), (by first | trivial | (simp; done) | (simp; omega)), ?_, ?_, ?_, ?_, .inl rfl, ?_, ?_⟩
          · rw [put_other (by omega), app_boxes]; exact e2
          · exact put_this (by rw [app_boxes]; exact e3l)
          · obtain ⟨hj, rfl⟩ := List.getElem?_eq_some_iff.1 hy
            rw [bareL_map, List.take_succ_eq_append_getElem hj, List.map_append, ← bareL_map]
            exact Pol.Rows.snoc khrr.out khr4.out
          · exact kca4.out.next (kx4.out.ok kok'.out) (kx.out.trans kx4.out).tn
          · exact ((kx.out.trans kx4.out).app kca4.out).put_new (by omega) _
          · exact (Mut.app (b := 0) kca4.out).ok (kx4.out.ok kok'.out)
      · have hie : i = l.length := by omega
        subst hie
        have hlt3 : ¬ ((l.length : Int) < (l.length : Int)) := by omega
        rw [List.take_length] at khrr
        have e2l := (List.getElem?_eq_some_iff.1 hb2).1
        repeat' (first | simp (config := { maxSteps := 4000000 }) (disch := first | assumption | (exact Nat.le_refl _) | omega | (simp only [List.length_cons, List.length_nil, List.length_append, push_len, put_len, len_app] <;> omega) | (simp (disch := (first | assumption | omega | (exact (push_len _ _).symm) | (simp only [push_len, put_len, len_app]; omega) | (refine Nat.le_antisymm ?_ ?_ <;> simp only [push_len, put_len, len_app] <;> omega) | fail)) only [get_push_last, get_push_eq, get_push_ne, get_put_eq, get_put_ne, get_app] <;> first | assumption | rfl) | (simp only [canApp_push, canApp_put]; assumption) | (exact start_round _ _) | (simp only [st_round, dfr_round, pn_round]; first | assumption | exact start_round _ _) | fail) only [goS, plainEv, resultsEv, resultListEv, reduceIte, Nat.reduceEqDiff, Option.map_some, Option.map_none, Option.bind_some, List.map_cons, List.map_nil, List.getD_cons_zero, List.getD_cons_succ, List.getElem?_toArray, List.getElem?_cons_zero, List.getElem?_cons_succ, eq_self, beq_self_eq_true, goH, List.append_nil, List.nil_append, rs50, row5_4, fa26_4, load26, store26, *] | (refine guard_dec (fun _ => ?_) (fun _ => ?_) <;> try (exfalso; omega)) | (refine guard_ndec (fun _ => ?_) (fun _ => ?_) <;> try (exfalso; omega)) | (refine branch_dec (fun _ => ?_) (fun _ => ?_) <;> try (exfalso; omega)) | (refine branch_ndec (fun _ => ?_) (fun _ => ?_) <;> try (exfalso; omega)) | refine guard_nbool (fun _ => ?_) (fun _ => ?_) | refine branch_nbool (fun _ => ?_) (fun _ => ?_) | refine guard_bool (fun _ => ?_) (fun _ => ?_) | refine branch_bool (fun _ => ?_) (fun _ => ?_))
        refine ⟨_, _, rfl, tokR, szR, rowsR, rfl, kx.out.put_new (by omega) _, ?_⟩
        refine .mk _ _ _ _ _ _ _ _ khrr.out.1 (fun i hi => ?_) (by rw [bareL_map, List.length_map]; exact hbd) khrr.out.2
        rcases ksr.out with q | ⟨q, -⟩
        · exact q
        · exfalso; have := khrr.out.1; rw [q] at this; simp at this; omega
    · refine ⟨0, .nil, 0, [], Nat.zero_le _, rfl, ?_, ?_, ?_, ?_, ?_, ?_, ?_, ?_, ?_, ?_, .inl rfl, .inr ⟨rfl, rfl⟩, ((Ext.push _ _).trans (.push _ _)).trans (.push _ _), kok.out⟩
      iterate 7
        · simp only [goS, plainEv, resultsEv, resultListEv, reduceIte, Nat.reduceEqDiff, Option.map_some, Option.map_none, Option.bind_some, List.map_cons, List.map_nil, List.getD_cons_zero, List.getD_cons_succ, List.getElem?_toArray, List.getElem?_cons_zero, List.getElem?_cons_succ, eq_self, beq_self_eq_true, goH] <;> rfl
      · simp (disch := (first | assumption | omega | (exact (push_len _ _).symm) | (simp only [push_len, put_len, len_app]; omega) | (refine Nat.le_antisymm ?_ ?_ <;> simp only [push_len, put_len, len_app] <;> omega) | fail)) only [get_push_last, get_push_eq, get_push_ne, get_put_eq, get_put_ne, get_app]
      · simp (disch := (first | assumption | omega | (exact (push_len _ _).symm) | (simp only [push_len, put_len, len_app]; omega) | (refine Nat.le_antisymm ?_ ?_ <;> simp only [push_len, put_len, len_app] <;> omega) | fail)) only [get_push_last, get_push_eq, get_push_ne, get_put_eq, get_put_ne, get_app]
      · rw [List.take_zero, bareL_map]; exact Pol.Rows.nil
end Go.Proofs.YtilmhlbjjfgeoaaDoor
end

section
namespace Go.Proofs.YtilmhlbjjfgeoaaDoor
open Go.AE Go.Lex Go.Pol
def bareR (N : Int) (l : List Rl) : List Rl := l.map fun x => { x with kindNo := N, expr := bareE N x.expr }
def bareP (N : Int) (p : Po) : Po := { p with rules := bareR N p.rules, change := bareE N p.change }
theorem bareR_snoc (N : Int) (l : List Rl) (x : Rl) : bareR N (l ++ [x]) = bareR N l ++ [{ x with kindNo := N, expr := bareE N x.expr }] := by
  unfold bareR
  rw [List.map_append]
  rfl
theorem bareP_ok {N : Int} {p : Po} {t : PT} (ok : POk p t) {tokR tok4 : Tok} {szR sz4 : Nat} {rowsR rows4 : List (List AV)} (h1 : RRows (bareR N p.rules) rowsR) (h2 : Row (bareE N p.change) (row5 (bareE N p.change).kind (bareE N p.change).n (bareE N p.change).no (bareE N p.change).name tok4 sz4 rows4)) (h3 : szR = 8 ∨ (rowsR = [] ∧ tokR = .nil)) :
    POk (bareP N p) { t with tr := tokR, sr := szR, rr := rowsR, tok := tok4, sz := sz4, rows := rows4 } := by
  have hl : (bareR N p.rules).length = p.rules.length := by simp [bareR]
  refine ⟨h1, h2, ok.zk, ok.zo, fun i hi => ?_, ok.bk, ok.bo, ?_⟩
  · rcases h3 with q | ⟨q, -⟩
    · exact q
    · exfalso
      have := h1.1
      rw [q] at this
      have hi : i < (bareR N p.rules).length := hi
      simp at this
      omega
  · show (bareR N p.rules).length ≤ _
    rw [hl]; exact ok.br
theorem v_cells {x : Value} : (AV.v x).cellsO = some [.v x] := rfl
def GivesB (R : Rec) (g : FuncId) (args : List AV) (h : Heap) (q : Po) : Prop := ∃ t h', R.call g args h = some (.ret (.agg (prow q t)), h') ∧ Ext h h' ∧ POk q t
set_option maxHeartbeats 16000000 in
set_option maxRecDepth 100000 in
theorem bare_ev (N : Int) (p : Po) (t : PT) (ok : POk p t) (few : PFew p) (h : Heap) (hok : okHeap h = true) : GivesB W 22 [.agg (prow p t), .v (.int .i64 N)] h (bareP N p) := by
  have u23 := Tryd.underlying23
  have a3 := ag3; have a9 := ag9; have a22 := ag22; have a23 := ag23; have a24 := ag24; have a26 := ag26; have a28 := ag28; have a43 := ag43; have s26 := sz26; have s28 := sz28; have s43 := sz43; have s3 := sz3; have z28 := zc28; have z43 := zc43'; have a66 := ag66; have z66 := zc66; have s66 := sz66
  have hlen := ok.rules.1
  have kok := Keep.mk ok
  have kfew := Keep.mk few
  have kokh := Keep.mk hok
  suffices hs : ∃ r h', W.call 22 [.agg (prow p t), .v (.int .i64 N)] h = some (r, h') ∧ (∃ t', r = .ret (.agg (prow (bareP N p) t')) ∧ Ext h h' ∧ POk (bareP N p) t') by
    obtain ⟨r, h', q1, t', rfl, q3, q4⟩ := hs
    exact ⟨t', h', q1, q3, q4⟩
  clear few hok
  refine call_post rfl Tryd.func22 rfl ?_
  repeat' (first | simp (config := { maxSteps := 4000000 }) (disch := first | assumption | (exact Nat.le_refl _) | omega | (simp only [List.length_cons, List.length_nil, List.length_append, push_len, put_len, len_app] <;> omega) | (simp (disch := (first | assumption | omega | (exact (push_len _ _).symm) | (simp only [push_len, put_len, len_app]; omega) | (refine Nat.le_antisymm ?_ ?_ <;> simp only [push_len, put_len, len_app] <;> omega) | fail)) only [get_push_last, get_push_eq, get_push_ne, get_put_eq, get_put_ne, get_app] <;> first | assumption | rfl) | (simp only [canApp_push, canApp_put]; assumption) | (exact start_round _ _) | (simp only [st_round, dfr_round, pn_round]; first | assumption | exact start_round _ _) | fail) only [goS, plainEv, resultsEv, resultListEv, reduceIte, Nat.reduceEqDiff, Option.map_some, Option.map_none, Option.bind_some, List.map_cons, List.map_nil, List.getD_cons_zero, List.getD_cons_succ, List.getElem?_toArray, List.getElem?_cons_zero, List.getElem?_cons_succ, eq_self, beq_self_eq_true, goH, List.append_nil, List.nil_append, rs22, v_cells, fp28, fp43, prs, rrs, load28, store28, store28_3, push_len, build28, put_push_eq, put_push_ne, cell_one, store66, *] | (refine guard_dec (fun _ => ?_) (fun _ => ?_) <;> try (exfalso; omega)) | (refine guard_ndec (fun _ => ?_) (fun _ => ?_) <;> try (exfalso; omega)) | (refine branch_dec (fun _ => ?_) (fun _ => ?_) <;> try (exfalso; omega)) | (refine branch_ndec (fun _ => ?_) (fun _ => ?_) <;> try (exfalso; omega)) | refine guard_nbool (fun _ => ?_) (fun _ => ?_) | refine branch_nbool (fun _ => ?_) (fun _ => ?_) | refine guard_bool (fun _ => ?_) (fun _ => ?_) | refine branch_bool (fun _ => ?_) (fun _ => ?_))
  refine run_loop (fun m e h' => ∃ (i : Nat) (tokR : Tok) (szR : Nat) (rowsR : List (List AV)), i ≤ p.rules.length ∧ m = p.rules.length - i ∧ e.get 2 = .ptr (.box h.boxes.length) 0 ∧ e.get 3 = .ptr (.box (h.boxes.length + 1)) 0 ∧ e.get 4 = .ptr (.box (h.boxes.length + 1 + 1)) 0 ∧ e.get 5 = .ptr (.box (h.boxes.length + 1 + 1 + 1)) 0 ∧ e.get 6 = .ptr (.box (h.boxes.length + 1 + 1 + 1 + 1)) 0 ∧ e.get 13 = .list t.tr t.sr t.rr ∧ e.get 14 = .v (.int .i64 (p.rules.length : Nat)) ∧ e.get 15 = .v (.int .i64 i) ∧ e.defers = [] ∧
    h'.boxes[h.boxes.length]? = some (prow p t) ∧ h'.boxes[h.boxes.length + 1]? = some [.v (.int .i64 N)] ∧ h'.boxes[h.boxes.length + 1 + 1]? = some (prow zP zT) ∧ h'.boxes[h.boxes.length + 1 + 1 + 1]? = some [.func (.func 50) [] [.ptr (.box (h.boxes.length + 1)) 0, .ptr (.box (h.boxes.length + 1 + 1 + 1)) 0]] ∧ h'.boxes[h.boxes.length + 1 + 1 + 1 + 1]? = some (prow p { t with tr := tokR, sr := szR, rr := rowsR }) ∧ RRows (bareR N (p.rules.take i)) rowsR ∧ CanApp h.tn h' tokR ∧ (szR = 8 ∨ (rowsR = [] ∧ tokR = .nil)) ∧ Ext h h' ∧ okHeap h' = true) ?_ p.rules.length _ _ ?_
  · rintro m e h' ⟨i, tokR, szR, rowsR, hi, rfl, g2, g3, g4, g5, g6, g13, g14, g15, hd, hb1, hbn, hb2, hbf, hb3, hrr, hca, hsr, hx, hok'⟩
    have hrl := hrr.1
    have khrr := Keep.mk hrr
    have kx := Keep.mk hx
    have kca := Keep.mk hca
    have ksr := Keep.mk hsr
    have kok' := Keep.mk hok'
    clear hrr hx hca hsr hok'
    have n3 := (List.getElem?_eq_some_iff.1 hb3).1
    by_cases hlt : i < p.rules.length
    · obtain ⟨y, tk2, sz2, rows2, hy, hr, hyr⟩ := RRows.get kok.out.rules hlt
      have h8 := kok.out.zr i hlt
      have hlt3 : (i : Int) < (t.rr.length : Int) := by rw [hlen]; omega
      have hlt4 : (i : Int) < (p.rules.length : Int) := by omega
      have rf8 := @rrow_fit8 y tk2 sz2 rows2
      have hbr := kok.out.br
      have hll := kfew.out.l
      obtain ⟨tok4, sz4, rows4, h5, c5, hx5, hr5⟩ := bare1_ev N (h.boxes.length + 1) (h.boxes.length + 1 + 1 + 1) y.expr tk2 sz2 rows2 hyr (kfew.out.r y (List.mem_of_getElem? hy)) (h'.push (rrow y tk2 sz2 rows2)) kok'.out (push_old hbn) (push_old hbf)
      have e1 := hx5.box _ _ (push_old hb1)
      have en := hx5.box _ _ (push_old hbn)
      have e2 := hx5.box _ _ (push_old hb2)
      have ef := hx5.box _ _ (push_old hbf)
      have e3 := hx5.box _ _ (push_old hb3)
      have e4 := hx5.box _ _ (push_last h' (rrow y tk2 sz2 rows2))
      have kx5 := Keep.mk ((Ext.push h' (rrow y tk2 sz2 rows2)).trans hx5)
      have khr5 := Keep.mk hr5
      have kca5 := Keep.mk (kca.out.ext kx5.out)
      have hrl2 : rowsR.length ≤ 70000 := by rw [hrl]; simp [bareR]; omega
      have happ : ∀ (q : List AV) (cs : List AV), appendEv Tryd.prog (h5.put h'.boxes.length cs) #[23, 23] (.list tokR szR rowsR) (.list .tight 8 [q]) = some (.list (.free h5.tn) 8 (rowsR ++ [q]), (h5.put h'.boxes.length cs).app tokR) := fun q cs => app_rule (h := h5.put h'.boxes.length cs) (kca5.out.mono (Nat.zero_le _)) ksr.out hrl2
      have le4 := (List.getElem?_eq_some_iff.1 e4).1
      have le3 := (List.getElem?_eq_some_iff.1 e3).1
      clear hx5 hr5
      repeat' (first | simp (config := { maxSteps := 4000000 }) (disch := first | assumption | (exact Nat.le_refl _) | omega | (simp only [List.length_cons, List.length_nil, List.length_append, push_len, put_len, len_app] <;> omega) | (simp (disch := (first | assumption | omega | (exact (push_len _ _).symm) | (simp only [push_len, put_len, len_app]; omega) | (refine Nat.le_antisymm ?_ ?_ <;> simp only [push_len, put_len, len_app] <;> omega) | fail)) only [get_push_last, get_push_eq, get_push_ne, get_put_eq, get_put_ne, get_app] <;> first | assumption | rfl) | (simp only [canApp_push, canApp_put]; assumption) | (exact start_round _ _) | (simp only [st_round, dfr_round, pn_round]; first | assumption | exact start_round _ _) | fail) only [goS, plainEv, resultsEv, resultListEv, reduceIte, Nat.reduceEqDiff, Option.map_some, Option.map_none, Option.bind_some, List.map_cons, List.map_nil, List.getD_cons_zero, List.getD_cons_succ, List.getElem?_toArray, List.getElem?_cons_zero, List.getElem?_cons_succ, eq_self, beq_self_eq_true, goH, List.append_nil, List.nil_append, rs22, fp28, fp43, prs, rrs, load28, store28, store28_3, load43, load43_3, store43, store43_1, store43_3, index_list, load_row_agg, build23, push_len, put_push_eq, put_push_ne, put_put, r5, cell_one, List.cons_append, List.nil_append, *] | (refine guard_dec (fun _ => ?_) (fun _ => ?_) <;> try (exfalso; omega)) | (refine guard_ndec (fun _ => ?_) (fun _ => ?_) <;> try (exfalso; omega)) | (refine branch_dec (fun _ => ?_) (fun _ => ?_) <;> try (exfalso; omega)) | (refine branch_ndec (fun _ => ?_) (fun _ => ?_) <;> try (exfalso; omega)) | refine guard_nbool (fun _ => ?_) (fun _ => ?_) | refine branch_nbool (fun _ => ?_) (fun _ => ?_) | refine guard_bool (fun _ => ?_) (fun _ => ?_) | refine branch_bool (fun _ => ?_) (fun _ => ?_))
      refine run_draw_but [(0, 4)] (by kernel_rfl) ?_ ?_
      · intro q hq
        simp only [List.mem_singleton] at hq
        subst hq
        refine stable_before (x := .ptr (.box (h.boxes.length + 1)) 0) (v := .v (.int .i64 N)) (by kernel_rfl) rfl rfl rfl (by kernel_rfl) (by simp [sameAV, sameV]) ?_ ?_
        · simp only [List.take_succ_cons, List.take_zero]
          repeat' (first | simp (config := { maxSteps := 4000000 }) (disch := first | assumption | (exact Nat.le_refl _) | omega | (simp only [List.length_cons, List.length_nil, List.length_append, push_len, put_len, len_app] <;> omega) | (simp (disch := (first | assumption | omega | (exact (push_len _ _).symm) | (simp only [push_len, put_len, len_app]; omega) | (refine Nat.le_antisymm ?_ ?_ <;> simp only [push_len, put_len, len_app] <;> omega) | fail)) only [get_push_last, get_push_eq, get_push_ne, get_put_eq, get_put_ne, get_app] <;> first | assumption | rfl) | (simp only [canApp_push, canApp_put]; assumption) | (exact start_round _ _) | (simp only [st_round, dfr_round, pn_round]; first | assumption | exact start_round _ _) | fail) only [goS, plainEv, resultsEv, resultListEv, reduceIte, Nat.reduceEqDiff, Option.map_some, Option.map_none, Option.bind_some, List.map_cons, List.map_nil, List.getD_cons_zero, List.getD_cons_succ, List.getElem?_toArray, List.getElem?_cons_zero, List.getElem?_cons_succ, eq_self, beq_self_eq_true, goH, List.append_nil, List.nil_append, cell_one, *] | (refine guard_dec (fun _ => ?_) (fun _ => ?_) <;> try (exfalso; omega)) | (refine guard_ndec (fun _ => ?_) (fun _ => ?_) <;> try (exfalso; omega)) | (refine branch_dec (fun _ => ?_) (fun _ => ?_) <;> try (exfalso; omega)) | (refine branch_ndec (fun _ => ?_) (fun _ => ?_) <;> try (exfalso; omega)) | refine guard_nbool (fun _ => ?_) (fun _ => ?_) | refine branch_nbool (fun _ => ?_) (fun _ => ?_) | refine guard_bool (fun _ => ?_) (fun _ => ?_) | refine branch_bool (fun _ => ?_) (fun _ => ?_))
          simp only [and_self]
        · simp only [List.take_succ_cons, List.take_zero]
          repeat' (first | simp (config := { maxSteps := 4000000 }) (disch := first | assumption | (exact Nat.le_refl _) | omega | (simp only [List.length_cons, List.length_nil, List.length_append, push_len, put_len, len_app] <;> omega) | (simp (disch := (first | assumption | omega | (exact (push_len _ _).symm) | (simp only [push_len, put_len, len_app]; omega) | (refine Nat.le_antisymm ?_ ?_ <;> simp only [push_len, put_len, len_app] <;> omega) | fail)) only [get_push_last, get_push_eq, get_push_ne, get_put_eq, get_put_ne, get_app] <;> first | assumption | rfl) | (simp only [canApp_push, canApp_put]; assumption) | (exact start_round _ _) | (simp only [st_round, dfr_round, pn_round]; first | assumption | exact start_round _ _) | fail) only [goS, plainEv, resultsEv, resultListEv, reduceIte, Nat.reduceEqDiff, Option.map_some, Option.map_none, Option.bind_some, List.map_cons, List.map_nil, List.getD_cons_zero, List.getD_cons_succ, List.getElem?_toArray, List.getElem?_cons_zero, List.getElem?_cons_succ, eq_self, beq_self_eq_true, goH, List.append_nil, List.nil_append, fp28, fp43, prs, rrs, load28, load43, load43_3, r5, List.cons_append, List.nil_append, cell_one, *] | (refine guard_dec (fun _ => ?_) (fun _ => ?_) <;> try (exfalso; omega)) | (refine guard_ndec (fun _ => ?_) (fun _ => ?_) <;> try (exfalso; omega)) | (refine branch_dec (fun _ => ?_) (fun _ => ?_) <;> try (exfalso; omega)) | (refine branch_ndec (fun _ => ?_) (fun _ => ?_) <;> try (exfalso; omega)) | refine guard_nbool (fun _ => ?_) (fun _ => ?_) | refine branch_nbool (fun _ => ?_) (fun _ => ?_) | refine guard_bool (fun _ => ?_) (fun _ => ?_) | refine branch_bool (fun _ => ?_) (fun _ => ?_))
          simp only [and_self]
      · repeat' (first | simp (config := { maxSteps := 4000000 }) (disch := first | assumption | (exact Nat.le_refl _) | omega | (simp only [List.length_cons, List.length_nil, List.length_append, push_len, put_len, len_app] <;> omega) | (simp (disch := (first | assumption | omega | (exact (push_len _ _).symm) | (simp only [push_len, put_len, len_app]; omega) | (refine Nat.le_antisymm ?_ ?_ <;> simp only [push_len, put_len, len_app] <;> omega) | fail)) only [get_push_last, get_push_eq, get_push_ne, get_put_eq, get_put_ne, get_app] <;> first | assumption | rfl) | (simp only [canApp_push, canApp_put]; assumption) | (exact start_round _ _) | (simp only [st_round, dfr_round, pn_round]; first | assumption | exact start_round _ _) | fail) only [goS, plainEv, resultsEv, resultListEv, reduceIte, Nat.reduceEqDiff, Option.map_some, Option.map_none, Option.bind_some, List.map_cons, List.map_nil, List.getD_cons_zero, List.getD_cons_succ, List.getElem?_toArray, List.getElem?_cons_zero, List.getElem?_cons_succ, eq_self, beq_self_eq_true, goH, List.append_nil, List.nil_append, rs22, fp28, fp43, prs, rrs, load28, store28, store28_3, load43, load43_3, store43, store43_1, store43_3, index_list, load_row_agg, build23, push_len, put_push_eq, put_push_ne, put_put, r5, cell_one, List.cons_append, List.nil_append, *] | (refine guard_dec (fun _ => ?_) (fun _ => ?_) <;> try (exfalso; omega)) | (refine guard_ndec (fun _ => ?_) (fun _ => ?_) <;> try (exfalso; omega)) | (refine branch_dec (fun _ => ?_) (fun _ => ?_) <;> try (exfalso; omega)) | (refine branch_ndec (fun _ => ?_) (fun _ => ?_) <;> try (exfalso; omega)) | refine guard_nbool (fun _ => ?_) (fun _ => ?_) | refine branch_nbool (fun _ => ?_) (fun _ => ?_) | refine guard_bool (fun _ => ?_) (fun _ => ?_) | refine branch_bool (fun _ => ?_) (fun _ => ?_))
        refine ⟨p.rules.length - (i + 1), by omega, i + 1, .free h5.tn, 8, rowsR ++ [rrow { y with kindNo := N, expr := bareE N y.expr } tok4 sz4 rows4], by omega, rfl, (by first | trivial | (simp; done) | (simp; omega)), (by first | trivial | (simp; done) | (simp; omega)), (by first | trivial | (simp; done) | (simp; omega)), (by first | trivial | (simp; done) | (simp; omega)), (by first | trivial | (simp; done) | (simp; omega)), (by first | trivial | (simp; done) | (simp; omega)), (by first | trivial | (simp; done) | (simp; omega)), (by first | trivial | (simp; done) | (simp; omega)), (by first | trivial | (simp; done) | (simp; omega)), ?_, ?_, ?_, ?_, ?_, ?_, ?_, .inl rfl, ?_, ?_⟩
        · rw [put_other (by omega), app_boxes, put_other (by omega)]; exact e1
        · rw [put_other (by omega), app_boxes, put_other (by omega)]; exact en
        · rw [put_other (by omega), app_boxes, put_other (by omega)]; exact e2
        · rw [put_other (by omega), app_boxes, put_other (by omega)]; exact ef
        · exact put_this (by rw [app_boxes, put_len]; exact le3)
        · obtain ⟨hj, rfl⟩ := List.getElem?_eq_some_iff.1 hy
          rw [List.take_succ_eq_append_getElem hj, bareR_snoc]
          exact RRows.snoc khrr.out (RRow.mk khr5.out)
        · exact kca5.out.next (h := h5.put h'.boxes.length _) (kx5.out.ok kok'.out) (kx.out.trans kx5.out).tn
        · exact (((kx.out.trans kx5.out).put_new (by omega) _).app (h := h5.put h'.boxes.length _) kca5.out).put_new (by omega) _
        · exact (Mut.app (b := 0) (h := h5.put h'.boxes.length _) kca5.out).ok (kx5.out.ok kok'.out)
    · have hie : i = p.rules.length := by omega
      subst hie
      have hlt3 : ¬ ((p.rules.length : Int) < (p.rules.length : Int)) := by omega
      rw [List.take_length] at khrr
      obtain ⟨tok4, sz4, rows4, h5, c5, hx5, hr5⟩ := bare1_ev N (h.boxes.length + 1) (h.boxes.length + 1 + 1 + 1) p.change t.tok t.sz t.rows kok.out.expr kfew.out.c h' kok'.out hbn hbf
      have e2 := hx5.box _ _ hb2
      have e3 := hx5.box _ _ hb3
      have kx5 := Keep.mk hx5
      have khr5 := Keep.mk hr5
      have le2 := (List.getElem?_eq_some_iff.1 e2).1
      have le3 := (List.getElem?_eq_some_iff.1 e3).1
      clear hx5 hr5
      repeat' (first | simp (config := { maxSteps := 4000000 }) (disch := first | assumption | (exact Nat.le_refl _) | omega | (simp only [List.length_cons, List.length_nil, List.length_append, push_len, put_len, len_app] <;> omega) | (simp (disch := (first | assumption | omega | (exact (push_len _ _).symm) | (simp only [push_len, put_len, len_app]; omega) | (refine Nat.le_antisymm ?_ ?_ <;> simp only [push_len, put_len, len_app] <;> omega) | fail)) only [get_push_last, get_push_eq, get_push_ne, get_put_eq, get_put_ne, get_app] <;> first | assumption | rfl) | (simp only [canApp_push, canApp_put]; assumption) | (exact start_round _ _) | (simp only [st_round, dfr_round, pn_round]; first | assumption | exact start_round _ _) | fail) only [goS, plainEv, resultsEv, resultListEv, reduceIte, Nat.reduceEqDiff, Option.map_some, Option.map_none, Option.bind_some, List.map_cons, List.map_nil, List.getD_cons_zero, List.getD_cons_succ, List.getElem?_toArray, List.getElem?_cons_zero, List.getElem?_cons_succ, eq_self, beq_self_eq_true, goH, List.append_nil, List.nil_append, rs22, fp28, fp43, prs, rrs, load28, load28_4, store28, store28_3, store28_4, push_len, put_put, p5, cell_one, List.cons_append, List.nil_append, *] | (refine guard_dec (fun _ => ?_) (fun _ => ?_) <;> try (exfalso; omega)) | (refine guard_ndec (fun _ => ?_) (fun _ => ?_) <;> try (exfalso; omega)) | (refine branch_dec (fun _ => ?_) (fun _ => ?_) <;> try (exfalso; omega)) | (refine branch_ndec (fun _ => ?_) (fun _ => ?_) <;> try (exfalso; omega)) | refine guard_nbool (fun _ => ?_) (fun _ => ?_) | refine branch_nbool (fun _ => ?_) (fun _ => ?_) | refine guard_bool (fun _ => ?_) (fun _ => ?_) | refine branch_bool (fun _ => ?_) (fun _ => ?_))
      refine ⟨_, _, rfl, { t with tr := tokR, sr := szR, rr := rowsR, tok := tok4, sz := sz4, rows := rows4 }, rfl, ((kx.out.trans kx5.out).put_new (b := h.boxes.length + 1 + 1 + 1 + 1) (by omega) _).put_new (b := h.boxes.length + 1 + 1) (by omega) _, ?_⟩
      exact bareP_ok kok.out khrr.out khr5.out ksr.out
  · refine ⟨0, .nil, 0, [], Nat.zero_le _, rfl, ?_, ?_, ?_, ?_, ?_, ?_, ?_, ?_, ?_, ?_, ?_, ?_, ?_, ?_, ?_, ?_, .inr ⟨rfl, rfl⟩, ?_, ?_⟩
    iterate 9
      · simp only [goS, plainEv, resultsEv, resultListEv, reduceIte, Nat.reduceEqDiff, Option.map_some, Option.map_none, Option.bind_some, List.map_cons, List.map_nil, List.getD_cons_zero, List.getD_cons_succ, List.getElem?_toArray, List.getElem?_cons_zero, List.getElem?_cons_succ, eq_self, beq_self_eq_true, goH, hlen] <;> rfl
    iterate 5
      · simp (disch := (first | assumption | omega | (exact (push_len _ _).symm) | (simp only [push_len, put_len, len_app]; omega) | (refine Nat.le_antisymm ?_ ?_ <;> simp only [push_len, put_len, len_app] <;> omega) | fail)) only [get_push_last, get_push_eq, get_push_ne, get_put_eq, get_put_ne, get_app]
    · exact RRows.nil
    · exact .inl rfl
    · exact ((((Ext.push _ _).trans (.push _ _)).trans (.push _ _)).trans (.push _ _)).trans (.push _ _)
    · exact kokh.out
end Go.Proofs.YtilmhlbjjfgeoaaDoor
end

section
namespace Go.Proofs.YtilmhlbjjfgeoaaDoor
open Go.AE Go.Lex Go.Pol
/-! ### PoliciesTwice -/
theorem resF_ok {p : Po} (h : (resolveF p).2 = 0) : resolveF p = (resP p, 0) := by
  unfold resolveF at h ⊢
  split at h <;> try exact absurd h (by decide)
  split at h <;> try exact absurd h (by decide)
  split at h <;> try exact absurd h (by decide)
  rename_i q1 q2 q3
  rw [if_neg q1, if_neg q2, if_neg q3]
theorem few_resF {p : Po} (h : fewP p = true) (h0 : codeP p = 0) : PFew (resP p) := few_few ((alike_resP p).symm.few1 h)
theorem u4b : Tryd.prog.underlying 4 = some .bool := by kernel_rfl
end Go.Proofs.YtilmhlbjjfgeoaaDoor
end

section
namespace Go.Proofs.YtilmhlbjjfgeoaaDoor
open Go.AE Go.Lex Go.Pol
/-! ### leads: what the numbers lead to -/
def leadsH (o : List (List UInt8)) (kk no : Int) (name : List UInt8) : Bool := if kk = 1 ∨ kk = 2 then (decide (0 ≤ no) && (decide (no < (o.length : Int)) && decide (o[no.toNat]? = some name))) else decide (no = 0)
mutual
def leadsE (o : List (List UInt8)) : Ex → Bool
  | .mk k _ no s l => leadsH o k no s && leadsL o l
def leadsL (o : List (List UInt8)) : List Ex → Bool
  | [] => true
  | x :: r => leadsE o x && leadsL o r
end
end Go.Proofs.YtilmhlbjjfgeoaaDoor
end

section
namespace Go.Proofs.YtilmhlbjjfgeoaaDoor
open Go.AE Go.Lex Go.Pol
/-! ### Plain part of PoliciesMean -/
theorem first_of {o : List (List UInt8)} {s : List UInt8} (h : s ∈ o) : ∃ k : Nat, o[k]? = some s ∧ ∀ j, j < k → o[j]? ≠ some s := by
  induction o with
  | nil => cases h
  | cons a o ih =>
    by_cases q : a = s
    · exact ⟨0, by simp [q], fun j hj => absurd hj (Nat.not_lt_zero j)⟩
    · obtain ⟨k, hk, hno⟩ := ih (by rcases List.mem_cons.1 h with e | e; exact absurd e.symm q; exact e)
      refine ⟨k + 1, by simpa using hk, fun j hj => ?_⟩
      cases j with
      | zero => simpa using q
      | succ j => simpa using hno j (by omega)
theorem idx_pos {o : List (List UInt8)} {s : List UInt8} (h : ¬ idx o s < 0) : idx o s < (o.length : Int) ∧ o[(idx o s).toNat]? = some s := by
  by_cases hm : s ∈ o
  · obtain ⟨k, hk, hno⟩ := first_of hm
    have := (List.getElem?_eq_some_iff.1 hk).1
    rw [idx_hit hk hno]
    exact ⟨by omega, by simpa using hk⟩
  · exfalso
    apply h
    rw [idx_miss (fun j hj q => hm (List.mem_of_getElem? q))]
    decide
theorem leads_res (o : List (List UInt8)) : (∀ x, namedE o x = true → leadsE o (resE o x) = true) ∧ ∀ l, namedL o l = true → leadsL o (resL o l) = true := by
  refine Ex.ind2 (fun k n no s l ih => ?_) ?_ (fun x r h1 h2 => ?_)
  · intro h
    rw [namedE, Bool.and_eq_true] at h
    rw [resE, leadsE, Bool.and_eq_true]
    refine ⟨?_, ih h.2⟩
    unfold leadsH
    by_cases q : k = 1 ∨ k = 2
    · rw [if_pos q, if_pos q]
      have h1 : ¬ idx o s < 0 := by
        intro w
        have := h.1
        rcases q with q | q <;> simp [q, w] at this
      obtain ⟨a, b⟩ := idx_pos h1
      simp only [Bool.and_eq_true, decide_eq_true_eq]
      exact ⟨by omega, a, b⟩
    · rw [if_neg q, if_neg q]; rfl
  · intro _; rw [resL, leadsL]
  · intro h
    rw [namedL, Bool.and_eq_true] at h
    rw [resL, leadsL, Bool.and_eq_true]
    exact ⟨h1 h.1, h2 h.2⟩
theorem resR_get {o : List (List UInt8)} {l : List Rl} {i : Nat} {x : Rl} (h : (resR o l)[i]? = some x) : ∃ z, l[i]? = some z ∧ x = { z with kindNo := (i : Int), expr := resE o z.expr } := by
  unfold resR at h
  rw [List.getElem?_mapIdx] at h
  cases q : l[i]? with
  | none => rw [q] at h; cases h
  | some z => rw [q] at h; injection h with h; exact ⟨z, rfl, h.symm⟩
theorem code_named {p : Po} (h : codeP p = 0) : namesP p = true ∧ formedP p = true := by
  rw [codeP_eq] at h
  split at h <;> try exact absurd h (by decide)
  split at h <;> try exact absurd h (by decide)
  split at h <;> try exact absurd h (by decide)
  rename_i q1 q2 q3
  exact ⟨by simpa using q2, by simpa using q3⟩
theorem mean_rule {p : Po} (h : codeP p = 0) {i : Nat} {x : Rl} (hx : (resP p).rules[i]? = some x) : x.kindNo = (i : Int) ∧ i < p.kinds.length ∧ p.kinds[i]? = some x.kind ∧ leadsE p.offices x.expr = true := by
  obtain ⟨hn, hf⟩ := code_named h
  obtain ⟨z, hz, rfl⟩ := resR_get hx
  have f := (formed_iff.1 hf).2.2.2.1 i z hz
  unfold headOk at f
  simp only [Bool.and_eq_true, decide_eq_true_eq] at f
  refine ⟨rfl, (List.getElem?_eq_some_iff.1 f.1).1, f.1, ?_⟩
  exact (leads_res p.offices).1 _ ((names_iff.1 hn).2.2.2 _ (List.mem_of_getElem? (exprs_rule hz)))
theorem mean_change {p : Po} (h : codeP p = 0) : leadsE p.offices (resP p).change = true := (leads_res p.offices).1 _ ((names_iff.1 (code_named h).1).2.2.2 _ (List.mem_of_getElem? (exprs_last p)))
theorem bare_resP (n : Int) (p : Po) : bareP n (resP p) = bareP n p := by
  have hr : bareR n (resR p.offices p.rules) = bareR n p.rules := by
    unfold bareR resR
    refine List.ext_getElem? fun i => ?_
    rw [List.getElem?_map, List.getElem?_map, List.getElem?_mapIdx]
    cases p.rules[i]? with
    | none => rfl
    | some z => simp only [Option.map_some, (bare_res n p.offices).1]
  show ({ resP p with rules := bareR n (resR p.offices p.rules), change := bareE n (resE p.offices p.change) } : Po) = _
  rw [hr, (bare_res n p.offices).1]
  rfl
end Go.Proofs.YtilmhlbjjfgeoaaDoor
end

section
namespace Go.Proofs.YtilmhlbjjfgeoaaDoor
open Go.AE Go.Lex Go.Pol
/-! ### PoliciesMoved's closure -/
def wantM (k n kk no : Int) : Int := if kk = 1 ∨ kk = 2 then (no - k + n).tmod n else no
mutual
def movedE (k n : Int) : Ex → Ex → Bool
  | .mk kk _ no _ l, y => decide (y.no = wantM k n kk no) && (decide (l.length = y.l.length) && movedL k n l y.l)
def movedL (k n : Int) : List Ex → List Ex → Bool
  | [], _ => true
  | _ :: _, [] => true
  | x :: r, y :: s => movedE k n x y && movedL k n r s
end
theorem rs23 : Tryd.f23.results.toList = [.tmp 7] := by kernel_rfl
theorem ag48 : isAggB Tryd.prog 48 = some false := by kernel_rfl
theorem leadsL_mem {o : List (List UInt8)} {l : List Ex} (h : leadsL o l = true) {x : Ex} (hx : x ∈ l) : leadsE o x = true := by
  induction l with
  | nil => cases hx
  | cons y r ih =>
    rw [leadsL, Bool.and_eq_true] at h
    rcases List.mem_cons.1 hx with e | e
    · rw [e]; exact h.1
    · exact ih h.2 e
theorem movedL_step {k n : Int} {l m : List Ex} {i : Nat} {x y : Ex} (hx : l[i]? = some x) (hy : m[i]? = some y) : movedL k n (l.drop i) (m.drop i) = (movedE k n x y && movedL k n (l.drop (i + 1)) (m.drop (i + 1))) := by
  obtain ⟨h1, rfl⟩ := List.getElem?_eq_some_iff.1 hx
  obtain ⟨h2, rfl⟩ := List.getElem?_eq_some_iff.1 hy
  rw [List.drop_eq_getElem_cons h1, List.drop_eq_getElem_cons h2, movedL]
set_option maxHeartbeats 16000000 in
set_option maxRecDepth 100000 in
theorem moved1_ev (o : List (List UInt8)) (k : Int) (hk0 : 0 ≤ k) (hk1 : k < (o.length : Int)) (ho : o.length ≤ 1000000) (bk bn bf : Nat) : ∀ (x : Ex) (tok : Tok) (sz : Nat) (rows : List (List AV)), Row x (row5 x.kind x.n x.no x.name tok sz rows) → cnt x ≤ 1000 → leadsE o x = true → ∀ (y : Ex) (tok2 : Tok) (sz2 : Nat) (rows2 : List (List AV)), Row y (row5 y.kind y.n y.no y.name tok2 sz2 rows2) → ∀ h,
    h.boxes[bk]? = some [.v (.int .i64 k)] → h.boxes[bn]? = some [.v (.int .i64 (o.length : Nat))] → h.boxes[bf]? = some [.func (.func 23) [] [.ptr (.box bk) 0, .ptr (.box bn) 0, .ptr (.box bf) 0]] →
    Says W 23 [.agg (row5 x.kind x.n x.no x.name tok sz rows), .agg (row5 y.kind y.n y.no y.name tok2 sz2 rows2), .ptr (.box bk) 0, .ptr (.box bn) 0, .ptr (.box bf) 0] h (.ret (.v (.bool (movedE k (o.length : Nat) x y)))) := by
  intro x
  induction x using Ex.ind with
  | h kk nn no name l ih =>
    intro tok sz rows hrow hcn hld y tok2 sz2 rows2 hrow2 h hbk hbn hbf
    obtain ⟨hrows, hsz, hbd⟩ := Row.got hrow
    obtain ⟨hrows2, hszy, hbdy⟩ := Row.got hrow2
    cases y with | mk kk2 nn2 no2 name2 l2 =>
    have ux := Tryd.underlying24
    have a3 := ag3; have a9 := ag9; have a24 := ag24; have a26 := ag26; have s26 := sz26; have s3 := sz3; have s24 := sz24; have z26 := zc26; have a48 := ag48
    have hlen := hrows.1
    have hlen2 := hrows2.1
    simp only [Ex.kind, Ex.n, Ex.no, Ex.name, Ex.l] at hrows hsz hlen hbd hrows2 hszy hlen2 hbdy ⊢
    rw [leadsE, Bool.and_eq_true] at hld
    have hH := hld.1
    have kr := Keep.mk hrows
    have kz := Keep.mk hsz
    have kr2 := Keep.mk hrows2
    have kz2 := Keep.mk hszy
    have kih := Keep.mk ih
    have kcn := Keep.mk hcn
    have kll := Keep.mk hld.2
    have kbk := Keep.mk hbk
    have kbn := Keep.mk hbn
    have kbf := Keep.mk hbf
    have m1 := (List.getElem?_eq_some_iff.1 hbk).1
    have m2 := (List.getElem?_eq_some_iff.1 hbn).1
    have m3 := (List.getElem?_eq_some_iff.1 hbf).1
    have kx0 := Keep.mk ((Ext.push h (row5 kk nn no name tok sz rows)).trans (.push _ (row5 kk2 nn2 no2 name2 tok2 sz2 rows2)))
    have hcase : (decide (kk = 1) = true ∧ decide (kk = 2) = false ∧ 0 ≤ no ∧ no < (o.length : Int) ∧ wantM k (o.length : Nat) kk no = (no - k + (o.length : Nat)).tmod (o.length : Nat)) ∨ (decide (kk = 1) = false ∧ decide (kk = 2) = true ∧ 0 ≤ no ∧ no < (o.length : Int) ∧ wantM k (o.length : Nat) kk no = (no - k + (o.length : Nat)).tmod (o.length : Nat)) ∨ (decide (kk = 1) = false ∧ decide (kk = 2) = false ∧ True ∧ True ∧ no = wantM k (o.length : Nat) kk no) := by
      unfold leadsH at hH
      unfold wantM
      by_cases q : kk = 1 ∨ kk = 2
      · rw [if_pos q] at hH ⊢
        simp only [Bool.and_eq_true, decide_eq_true_eq] at hH
        rcases q with q | q <;> subst q
        · exact .inl ⟨by simp, by simp, hH.1, hH.2.1, rfl⟩
        · exact .inr (.inl ⟨by simp, by simp, hH.1, hH.2.1, rfl⟩)
      · rw [if_neg q]
        simp only [not_or] at q
        exact .inr (.inr ⟨by simp [q.1], by simp [q.2], trivial, trivial, rfl⟩)
    rw [movedE]
    clear hrows hsz hrows2 hszy ih hld hH hcn
    simp only [Ex.no, Ex.l]
    generalize hw : wantM k (o.length : Nat) kk no = w at hcase ⊢
    have hbd2 := hbd
    have bad : ∀ (q : Bool) (hh : Heap), Ext h hh → q = false → ∃ h', (some (Res.ret (AV.v (.bool false)), hh) : Option (Res × Heap)) = some (.ret (.v (.bool q)), h') ∧ Ext h h' := fun q hh hx e => ⟨hh, by rw [e], hx⟩
    have kbad := Keep.mk bad
    clear bad
    obtain ⟨d, e1⟩ : ∃ d, decide (no2 = w) = d := ⟨_, rfl⟩
    have ke1 := Keep.mk e1
    change Says W 23 _ h (Res.ret (AV.v (Value.bool (decide (no2 = w) && (decide (l.length = l2.length) && movedL k (o.length : Nat) l l2)))))
    obtain ⟨Q, hQ⟩ : ∃ Q, (decide (no2 = w) && (decide (l.length = l2.length) && movedL k (o.length : Nat) l l2)) = Q := ⟨_, rfl⟩
    rw [hQ]
    have kQ := Keep.mk hQ
    clear hQ
    refine call_ex rfl Tryd.func23 rfl ?_
    cases d with
    | false =>
      rcases hcase with ⟨d1, d2, n0, n1, rfl⟩ | ⟨d1, d2, n0, n1, rfl⟩ | ⟨d1, d2, -, -, rfl⟩
      all_goals
        clear hw
        repeat' (first | simp (config := { maxSteps := 4000000 }) (disch := first | assumption | (exact Nat.le_refl _) | omega | (simp only [List.length_cons, List.length_nil, List.length_append, push_len, put_len, len_app] <;> omega) | (simp (disch := (first | assumption | omega | (exact (push_len _ _).symm) | (simp only [push_len, put_len, len_app]; omega) | (refine Nat.le_antisymm ?_ ?_ <;> simp only [push_len, put_len, len_app] <;> omega) | fail)) only [get_push_last, get_push_eq, get_push_ne, get_put_eq, get_put_ne, get_app] <;> first | assumption | rfl) | (simp only [canApp_push, canApp_put]; assumption) | (exact start_round _ _) | (simp only [st_round, dfr_round, pn_round]; first | assumption | exact start_round _ _) | fail) only [goS, plainEv, resultsEv, resultListEv, reduceIte, Nat.reduceEqDiff, Option.map_some, Option.map_none, Option.bind_some, List.map_cons, List.map_nil, List.getD_cons_zero, List.getD_cons_succ, List.getElem?_toArray, List.getElem?_cons_zero, List.getElem?_cons_succ, eq_self, beq_self_eq_true, goH, List.append_nil, List.nil_append, rs23, row5_cells, row5_0, row5_2, row5_3, row5_4, row5_all, fa26_0, fa26_2, fa26_3, fa26_4, load26, put_push_eq, put_push_ne, push_len, cell_one, Bool.true_or, Bool.or_true, Bool.or_false, *] | (refine guard_dec (fun _ => ?_) (fun _ => ?_) <;> try (exfalso; omega)) | (refine guard_ndec (fun _ => ?_) (fun _ => ?_) <;> try (exfalso; omega)) | (refine branch_dec (fun _ => ?_) (fun _ => ?_) <;> try (exfalso; omega)) | (refine branch_ndec (fun _ => ?_) (fun _ => ?_) <;> try (exfalso; omega)) | refine guard_nbool (fun _ => ?_) (fun _ => ?_) | refine branch_nbool (fun _ => ?_) (fun _ => ?_) | refine guard_bool (fun _ => ?_) (fun _ => ?_) | refine branch_bool (fun _ => ?_) (fun _ => ?_))
        exact kbad.out _ _ kx0.out (by rw [← kQ.out, ke1.out]; rfl)
    | true =>
      obtain ⟨d', e2⟩ : ∃ d, decide (l.length = l2.length) = d := ⟨_, rfl⟩
      have ke2 := Keep.mk e2
      cases d' with
      | false =>
        have e2' : ¬ l.length = l2.length := of_decide_eq_false e2
        rcases hcase with ⟨d1, d2, n0, n1, rfl⟩ | ⟨d1, d2, n0, n1, rfl⟩ | ⟨d1, d2, -, -, rfl⟩
        all_goals
          clear hw
          repeat' (first | simp (config := { maxSteps := 4000000 }) (disch := first | assumption | (exact Nat.le_refl _) | omega | (simp only [List.length_cons, List.length_nil, List.length_append, push_len, put_len, len_app] <;> omega) | (simp (disch := (first | assumption | omega | (exact (push_len _ _).symm) | (simp only [push_len, put_len, len_app]; omega) | (refine Nat.le_antisymm ?_ ?_ <;> simp only [push_len, put_len, len_app] <;> omega) | fail)) only [get_push_last, get_push_eq, get_push_ne, get_put_eq, get_put_ne, get_app] <;> first | assumption | rfl) | (simp only [canApp_push, canApp_put]; assumption) | (exact start_round _ _) | (simp only [st_round, dfr_round, pn_round]; first | assumption | exact start_round _ _) | fail) only [goS, plainEv, resultsEv, resultListEv, reduceIte, Nat.reduceEqDiff, Option.map_some, Option.map_none, Option.bind_some, List.map_cons, List.map_nil, List.getD_cons_zero, List.getD_cons_succ, List.getElem?_toArray, List.getElem?_cons_zero, List.getElem?_cons_succ, eq_self, beq_self_eq_true, goH, List.append_nil, List.nil_append, rs23, row5_cells, row5_0, row5_2, row5_3, row5_4, row5_all, fa26_0, fa26_2, fa26_3, fa26_4, load26, put_push_eq, put_push_ne, push_len, cell_one, Bool.true_or, Bool.or_true, Bool.or_false, *] | (refine guard_dec (fun _ => ?_) (fun _ => ?_) <;> try (exfalso; omega)) | (refine guard_ndec (fun _ => ?_) (fun _ => ?_) <;> try (exfalso; omega)) | (refine branch_dec (fun _ => ?_) (fun _ => ?_) <;> try (exfalso; omega)) | (refine branch_ndec (fun _ => ?_) (fun _ => ?_) <;> try (exfalso; omega)) | refine guard_nbool (fun _ => ?_) (fun _ => ?_) | refine branch_nbool (fun _ => ?_) (fun _ => ?_) | refine guard_bool (fun _ => ?_) (fun _ => ?_) | refine branch_bool (fun _ => ?_) (fun _ => ?_))
          exact kbad.out _ _ kx0.out (by rw [← kQ.out, ke1.out, ke2.out]; rfl)
      | true =>
        have e2' : l.length = l2.length := of_decide_eq_true e2
        have kbad2 := Keep.mk (fun (hh : Heap) (hx : Ext h hh) (q : movedL k (o.length : Nat) l l2 = false) => kbad.out Q hh hx (by rw [← kQ.out, q]; simp))
        have kgood := Keep.mk (fun (q : movedL k (o.length : Nat) l l2 = true) => (show Q = true by rw [← kQ.out, e1, e2, q]; rfl))
        rcases hcase with ⟨d1, d2, n0, n1, rfl⟩ | ⟨d1, d2, n0, n1, rfl⟩ | ⟨d1, d2, -, -, rfl⟩
        all_goals
          clear hw
          repeat' (first | simp (config := { maxSteps := 4000000 }) (disch := first | assumption | (exact Nat.le_refl _) | omega | (simp only [List.length_cons, List.length_nil, List.length_append, push_len, put_len, len_app] <;> omega) | (simp (disch := (first | assumption | omega | (exact (push_len _ _).symm) | (simp only [push_len, put_len, len_app]; omega) | (refine Nat.le_antisymm ?_ ?_ <;> simp only [push_len, put_len, len_app] <;> omega) | fail)) only [get_push_last, get_push_eq, get_push_ne, get_put_eq, get_put_ne, get_app] <;> first | assumption | rfl) | (simp only [canApp_push, canApp_put]; assumption) | (exact start_round _ _) | (simp only [st_round, dfr_round, pn_round]; first | assumption | exact start_round _ _) | fail) only [goS, plainEv, resultsEv, resultListEv, reduceIte, Nat.reduceEqDiff, Option.map_some, Option.map_none, Option.bind_some, List.map_cons, List.map_nil, List.getD_cons_zero, List.getD_cons_succ, List.getElem?_toArray, List.getElem?_cons_zero, List.getElem?_cons_succ, eq_self, beq_self_eq_true, goH, List.append_nil, List.nil_append, rs23, row5_cells, row5_0, row5_2, row5_3, row5_4, row5_all, fa26_0, fa26_2, fa26_3, fa26_4, load26, put_push_eq, put_push_ne, push_len, cell_one, Bool.true_or, Bool.or_true, Bool.or_false, *] | (refine guard_dec (fun _ => ?_) (fun _ => ?_) <;> try (exfalso; omega)) | (refine guard_ndec (fun _ => ?_) (fun _ => ?_) <;> try (exfalso; omega)) | (refine branch_dec (fun _ => ?_) (fun _ => ?_) <;> try (exfalso; omega)) | (refine branch_ndec (fun _ => ?_) (fun _ => ?_) <;> try (exfalso; omega)) | refine guard_nbool (fun _ => ?_) (fun _ => ?_) | refine branch_nbool (fun _ => ?_) (fun _ => ?_) | refine guard_bool (fun _ => ?_) (fun _ => ?_) | refine branch_bool (fun _ => ?_) (fun _ => ?_))
          refine run_loop (fun m e h' => ∃ (i : Nat), i ≤ l.length ∧ m = l.length - i ∧ e.get 4 = .ptr (.box bf) 0 ∧ e.get 5 = .ptr (.box h.boxes.length) 0 ∧ e.get 6 = .ptr (.box (h.boxes.length + 1)) 0 ∧ e.get 43 = .v (.int .i64 (l.length : Nat)) ∧ e.get 44 = .v (.int .i64 i) ∧ e.defers = [] ∧ Ext h h' ∧ h'.boxes[h.boxes.length]? = some (row5 kk nn no name tok sz rows) ∧ h'.boxes[h.boxes.length + 1]? = some (row5 kk2 nn2 no2 name2 tok2 sz2 rows2) ∧ movedL k (o.length : Nat) l l2 = movedL k (o.length : Nat) (l.drop i) (l2.drop i)) ?_ l.length _ _ ?_
          · rintro m e h' ⟨i, hi, rfl, g4, g5, g6, g43, g44, hdf, hx, hb1, hb2, hno⟩
            have kx := Keep.mk hx
            have kno := Keep.mk hno
            clear hx hno
            by_cases hlt : i < l.length
            · obtain ⟨y, r, hy, hr, hyr⟩ := kr.out.get hlt
              obtain ⟨z, s, hz, hs, hzr⟩ := kr2.out.get (i := i) (by omega)
              have h5 := kz.out i hlt
              have h6 := kz2.out i (by omega)
              subst h5
              subst h6
              obtain ⟨tk3, sz3, rows3, rfl, -⟩ := Row.five hyr
              obtain ⟨tk4, sz4, rows4, rfl, -⟩ := Row.five hzr
              have hlt3 : (i : Int) < (rows.length : Int) := by rw [hlen]; omega
              have hlt4 : (i : Int) < (l.length : Int) := by omega
              have hlt5 : (i : Int) < (rows2.length : Int) := by rw [hlen2]; omega
              have hle5 : 5 ≤ ((row5 y.kind y.n y.no y.name tk3 sz3 rows3).drop 0).length := by rw [List.drop_zero]; exact Nat.le_refl _
              have hle6 : 5 ≤ ((row5 z.kind z.n z.no z.name tk4 sz4 rows4).drop 0).length := by rw [List.drop_zero]; exact Nat.le_refl _
              have hcy : cnt y ≤ 1000 := by have := cntL_mem (List.mem_of_getElem? hy); have := kcn.out; rw [cnt] at this; omega
              have hll : l.length ≤ 1000 := by have := cntL_len l; have := kcn.out; rw [cnt] at this; omega
              have hbf' := kx.out.box _ _ kbf.out
              obtain ⟨h4, c4, hx4⟩ := kih.out y (List.mem_of_getElem? hy) tk3 sz3 rows3 hyr hcy (leadsL_mem kll.out (List.mem_of_getElem? hy)) z tk4 sz4 rows4 hzr h' (kx.out.box _ _ kbk.out) (kx.out.box _ _ kbn.out) hbf'
              have kst := Keep.mk (movedL_step (k := k) (n := (o.length : Nat)) hy hz)
              have kx4 := Keep.mk hx4
              clear hx4
              cases e3 : movedE k (o.length : Nat) y z with
              | false =>
                rw [e3] at c4
                have kb3 := Keep.mk (kbad2.out h4 (kx.out.trans kx4.out) (by rw [kno.out, kst.out, e3]; rfl))
                clear e3
                repeat' (first | simp (config := { maxSteps := 4000000 }) (disch := first | assumption | (exact Nat.le_refl _) | omega | (simp only [List.length_cons, List.length_nil, List.length_append, push_len, put_len, len_app] <;> omega) | (simp (disch := (first | assumption | omega | (exact (push_len _ _).symm) | (simp only [push_len, put_len, len_app]; omega) | (refine Nat.le_antisymm ?_ ?_ <;> simp only [push_len, put_len, len_app] <;> omega) | fail)) only [get_push_last, get_push_eq, get_push_ne, get_put_eq, get_put_ne, get_app] <;> first | assumption | rfl) | (simp only [canApp_push, canApp_put]; assumption) | (exact start_round _ _) | (simp only [st_round, dfr_round, pn_round]; first | assumption | exact start_round _ _) | fail) only [goS, plainEv, resultsEv, resultListEv, reduceIte, Nat.reduceEqDiff, Option.map_some, Option.map_none, Option.bind_some, List.map_cons, List.map_nil, List.getD_cons_zero, List.getD_cons_succ, List.getElem?_toArray, List.getElem?_cons_zero, List.getElem?_cons_succ, eq_self, beq_self_eq_true, goH, List.append_nil, List.nil_append, rs23, row5_4, fa26_4, load26, index_list, load_row_agg, row5_all, cell_one, List.cons_append, List.nil_append, *] | (refine guard_dec (fun _ => ?_) (fun _ => ?_) <;> try (exfalso; omega)) | (refine guard_ndec (fun _ => ?_) (fun _ => ?_) <;> try (exfalso; omega)) | (refine branch_dec (fun _ => ?_) (fun _ => ?_) <;> try (exfalso; omega)) | (refine branch_ndec (fun _ => ?_) (fun _ => ?_) <;> try (exfalso; omega)) | refine run_draw (by kernel_rfl) ?_ | refine guard_nbool (fun _ => ?_) (fun _ => ?_) | refine branch_nbool (fun _ => ?_) (fun _ => ?_) | refine guard_bool (fun _ => ?_) (fun _ => ?_) | refine branch_bool (fun _ => ?_) (fun _ => ?_))
                exact kb3.out
              | true =>
                rw [e3] at c4
                have kb3 := Keep.mk (show movedL k (o.length : Nat) l l2 = movedL k (o.length : Nat) (l.drop (i + 1)) (l2.drop (i + 1)) by rw [kno.out, kst.out, e3]; rfl)
                clear e3
                repeat' (first | simp (config := { maxSteps := 4000000 }) (disch := first | assumption | (exact Nat.le_refl _) | omega | (simp only [List.length_cons, List.length_nil, List.length_append, push_len, put_len, len_app] <;> omega) | (simp (disch := (first | assumption | omega | (exact (push_len _ _).symm) | (simp only [push_len, put_len, len_app]; omega) | (refine Nat.le_antisymm ?_ ?_ <;> simp only [push_len, put_len, len_app] <;> omega) | fail)) only [get_push_last, get_push_eq, get_push_ne, get_put_eq, get_put_ne, get_app] <;> first | assumption | rfl) | (simp only [canApp_push, canApp_put]; assumption) | (exact start_round _ _) | (simp only [st_round, dfr_round, pn_round]; first | assumption | exact start_round _ _) | fail) only [goS, plainEv, resultsEv, resultListEv, reduceIte, Nat.reduceEqDiff, Option.map_some, Option.map_none, Option.bind_some, List.map_cons, List.map_nil, List.getD_cons_zero, List.getD_cons_succ, List.getElem?_toArray, List.getElem?_cons_zero, List.getElem?_cons_succ, eq_self, beq_self_eq_true, goH, List.append_nil, List.nil_append, rs23, row5_4, fa26_4, load26, index_list, load_row_agg, row5_all, cell_one, List.cons_append, List.nil_append, *] | (refine guard_dec (fun _ => ?_) (fun _ => ?_) <;> try (exfalso; omega)) | (refine guard_ndec (fun _ => ?_) (fun _ => ?_) <;> try (exfalso; omega)) | (refine branch_dec (fun _ => ?_) (fun _ => ?_) <;> try (exfalso; omega)) | (refine branch_ndec (fun _ => ?_) (fun _ => ?_) <;> try (exfalso; omega)) | refine run_draw (by kernel_rfl) ?_ | refine guard_nbool (fun _ => ?_) (fun _ => ?_) | refine branch_nbool (fun _ => ?_) (fun _ => ?_) | refine guard_bool (fun _ => ?_) (fun _ => ?_) | refine branch_bool (fun _ => ?_) (fun _ => ?_))
                exact ⟨l.length - (i + 1), by omega, i + 1, by omega, by omega, (by first | trivial | (simp; done) | (simp; omega)), (by first | trivial | (simp; done) | (simp; omega)), (by first | trivial | (simp; done) | (simp; omega)), (by first | trivial | (simp; done) | (simp; omega)), (by first | trivial | (simp; done) | (simp; omega)), (by first | trivial | (simp; done) | (simp; omega)), kx.out.trans kx4.out, kx4.out.box _ _ hb1, kx4.out.box _ _ hb2, kb3.out⟩
            · have hie : i = l.length := by omega
              subst hie
              have hlt4 : ¬ ((l.length : Int) < (l.length : Int)) := by omega
              have hg := kgood.out (by rw [kno.out, List.drop_length]; rw [movedL])
              rw [hg]
              repeat' (first | simp (config := { maxSteps := 4000000 }) (disch := first | assumption | (exact Nat.le_refl _) | omega | (simp only [List.length_cons, List.length_nil, List.length_append, push_len, put_len, len_app] <;> omega) | (simp (disch := (first | assumption | omega | (exact (push_len _ _).symm) | (simp only [push_len, put_len, len_app]; omega) | (refine Nat.le_antisymm ?_ ?_ <;> simp only [push_len, put_len, len_app] <;> omega) | fail)) only [get_push_last, get_push_eq, get_push_ne, get_put_eq, get_put_ne, get_app] <;> first | assumption | rfl) | (simp only [canApp_push, canApp_put]; assumption) | (exact start_round _ _) | (simp only [st_round, dfr_round, pn_round]; first | assumption | exact start_round _ _) | fail) only [goS, plainEv, resultsEv, resultListEv, reduceIte, Nat.reduceEqDiff, Option.map_some, Option.map_none, Option.bind_some, List.map_cons, List.map_nil, List.getD_cons_zero, List.getD_cons_succ, List.getElem?_toArray, List.getElem?_cons_zero, List.getElem?_cons_succ, eq_self, beq_self_eq_true, goH, List.append_nil, List.nil_append, rs23, *] | (refine guard_dec (fun _ => ?_) (fun _ => ?_) <;> try (exfalso; omega)) | (refine guard_ndec (fun _ => ?_) (fun _ => ?_) <;> try (exfalso; omega)) | (refine branch_dec (fun _ => ?_) (fun _ => ?_) <;> try (exfalso; omega)) | (refine branch_ndec (fun _ => ?_) (fun _ => ?_) <;> try (exfalso; omega)) | refine guard_nbool (fun _ => ?_) (fun _ => ?_) | refine branch_nbool (fun _ => ?_) (fun _ => ?_) | refine guard_bool (fun _ => ?_) (fun _ => ?_) | refine branch_bool (fun _ => ?_) (fun _ => ?_))
              exact ⟨_, rfl, kx.out⟩
          · refine ⟨0, Nat.zero_le _, rfl, ?_, ?_, ?_, ?_, ?_, ?_, kx0.out, ?_, ?_, rfl⟩
            iterate 6
              · simp only [goS, plainEv, resultsEv, resultListEv, reduceIte, Nat.reduceEqDiff, Option.map_some, Option.map_none, Option.bind_some, List.map_cons, List.map_nil, List.getD_cons_zero, List.getD_cons_succ, List.getElem?_toArray, List.getElem?_cons_zero, List.getElem?_cons_succ, eq_self, beq_self_eq_true, goH, hlen, ← e2'] <;> rfl
            · simp (disch := (first | assumption | omega | (exact (push_len _ _).symm) | (simp only [push_len, put_len, len_app]; omega) | (refine Nat.le_antisymm ?_ ?_ <;> simp only [push_len, put_len, len_app] <;> omega) | fail)) only [get_push_last, get_push_eq, get_push_ne, get_put_eq, get_put_ne, get_app]
            · simp (disch := (first | assumption | omega | (exact (push_len _ _).symm) | (simp only [push_len, put_len, len_app]; omega) | (refine Nat.le_antisymm ?_ ?_ <;> simp only [push_len, put_len, len_app] <;> omega) | fail)) only [get_push_last, get_push_eq, get_push_ne, get_put_eq, get_put_ne, get_app]
end Go.Proofs.YtilmhlbjjfgeoaaDoor
end
