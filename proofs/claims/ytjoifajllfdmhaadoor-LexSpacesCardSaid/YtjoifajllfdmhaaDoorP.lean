/-
  The library's functions that the lexer's statements reach, each by its contract.
-/
import Derived.Test.YtjoifajllfdmhaaDoorE4
import Derived.Test.YtjoifajllfdmhaaDoorShelf
import Derived.Test.YtjoifajllfdmhaaDoorRows
import Derived.Stop.LaidErr
import Derived.Stop.Joined
import Derived.Lib.LaidTab
import Derived.LaidMore
import Derived.MakeChecks
set_option linter.unusedSimpArgs false
set_option linter.unusedVariables false
set_option linter.constructorNameAsVariable false
section
namespace Go.Proofs.YtjoifajllfdmhaaDoor
open Go.AE Go.RowKit

/-! ### Decimal digits, structurally -/
def digs : Nat → Nat → List UInt8 → List UInt8
  | 0, _, acc => acc
  | f + 1, n, acc => if n < 10 then UInt8.ofNat (48 + n) :: acc else digs f (n / 10) (UInt8.ofNat (48 + n % 10) :: acc)
theorem digs_eq : ∀ (f n : Nat) (acc : List UInt8), n < 10 ^ f → 0 < f → digs f n acc = Lib.decDigits n ++ acc := by
  intro f
  induction f with
  | zero => intro n acc h h0; omega
  | succ f ih =>
    intro n acc h _
    rw [digs, Lib.decDigits]
    by_cases hn : n < 10
    · rw [if_pos hn, dif_pos hn]; rfl
    · rw [if_neg hn, dif_neg hn]
      have hf : 0 < f := by
        rcases Nat.eq_zero_or_pos f with h0 | h0
        · subst h0; simp at h; omega
        · exact h0
      rw [ih (n / 10) _ (by rw [Nat.pow_succ] at h; omega) hf, List.append_assoc]
      rfl
def itoaK (n : Int) : List UInt8 := if n < 0 then 45 :: digs 20 n.natAbs [] else digs 20 n.toNat []
theorem itoaK_eq (n : Int) (h0 : -9223372036854775808 ≤ n) (h1 : n ≤ 9223372036854775807) : itoaK n = Lib.itoa n := by
  unfold itoaK Lib.itoa
  split
  · rw [digs_eq _ _ _ (by omega) (by omega), List.append_nil]
  · rw [digs_eq _ _ _ (by omega) (by omega), List.append_nil]

/-! ### What a list of cells holds -/
def strsOf : List (List AV) → Option (List (List UInt8))
  | [] => some []
  | [.v (.string s)] :: r => (strsOf r).map (s.data.toList :: ·)
  | _ => none
def intsOf : List (List AV) → Option (List Int)
  | [] => some []
  | [.v (.int .i64 n)] :: r => (intsOf r).map (n :: ·)
  | _ => none

theorem strsOf_rel {K : Know} : ∀ {rows : List (List AV)} {l : List (List UInt8)}, strsOf rows = some l → ∀ {vals : List Value}, VsRel K rows.flatten vals → vals = l.map fun s => Value.string (bs s) := by
  intro rows
  induction rows with
  | nil => intro l h vals hv; simp [strsOf] at h; subst h; cases hv; rfl
  | cons r rows ih =>
    intro l h vals hv
    unfold strsOf at h
    split at h
    · simp at *
    · rename_i s r' heq
      simp only [List.cons.injEq] at heq
      obtain ⟨rfl, rfl⟩ := heq
      simp only [Option.map_eq_some_iff] at h
      obtain ⟨l', hl', rfl⟩ := h
      simp only [List.flatten_cons, List.cons_append, List.nil_append] at hv
      cases hv with
      | cons _ c _ cs hx hs =>
        rw [ih hl' hs, hx.scalar_of.1]
        simp only [List.map_cons]
        rw [← bs_of]
    · cases h

theorem intsOf_rel {K : Know} : ∀ {rows : List (List AV)} {l : List Int}, intsOf rows = some l → ∀ {vals : List Value}, VsRel K rows.flatten vals → vals = l.map fun n => Value.int .i64 n := by
  intro rows
  induction rows with
  | nil => intro l h vals hv; simp [intsOf] at h; subst h; cases hv; rfl
  | cons r rows ih =>
    intro l h vals hv
    unfold intsOf at h
    split at h
    · simp at *
    · rename_i s r' heq
      simp only [List.cons.injEq] at heq
      obtain ⟨rfl, rfl⟩ := heq
      simp only [Option.map_eq_some_iff] at h
      obtain ⟨l', hl', rfl⟩ := h
      simp only [List.flatten_cons, List.cons_append, List.nil_append] at hv
      cases hv with
      | cons _ c _ cs hx hs =>
        rw [ih hl' hs, hx.scalar_of.1]
        rfl
    · cases h

/-! ### The functions -/
def pIndexByte (args : List AV) (h : Heap) : Option (AV × Heap) :=
  match args with
  | [.v (.string s), .v (.int .u8 c)] => some (.v (.int .i64 (Lib.indexByte s.data.toList c.toNat.toUInt8)), h)
  | _ => none
def pHasPrefix (args : List AV) (h : Heap) : Option (AV × Heap) :=
  match args with
  | [.v (.string s), .v (.string p)] => some (.v (.bool (Lib.hasPrefix s.data.toList p.data.toList)), h)
  | _ => none
def pItoa (args : List AV) (h : Heap) : Option (AV × Heap) :=
  match args with
  | [.v (.int .i64 n)] => if -9223372036854775808 ≤ n ∧ n ≤ 9223372036854775807 then some (.v (.string (bs (itoaK n))), h) else none
  | _ => none
def pAtoi (args : List AV) (h : Heap) : Option (AV × Heap) :=
  match args with
  | [.v (.string s)] =>
    if s.size ≤ 281474976710656 then
      match Lib.atoiAll s.data.toList with
      | .ok v => some (.tuple [.v (.int .i64 v), .v .nilIface], h)
      | .range => some (.tuple [.v (.int .i64 (Lib.atoiSat s.data.toList)), .iface 79 .bad], h)
      | _ => some (.tuple [.v (.int .i64 0), .iface 79 .bad], h)
    else none
  | _ => none
def pJoin (args : List AV) (h : Heap) : Option (AV × Heap) :=
  match args with
  | [x, .v (.string sep)] =>
    match rowsOf h 1 x with
    | some rows =>
      match strsOf rows with
      | some l => if rows.length ≤ 140737488355328 ∧ (Lib.join l sep.data.toList).length ≤ 140737488355328 then some (.v (.string (bs (Lib.join l sep.data.toList))), h) else none
      | none => none
    | none => none
  | _ => none
def pContains (args : List AV) (h : Heap) : Option (AV × Heap) :=
  match args with
  | [x, .v (.int .i64 n)] =>
    match rowsOf h 1 x with
    | some rows =>
      match intsOf rows with
      | some l => if rows.length ≤ 9223372036854775807 then some (.v (.bool (l.contains n)), h) else none
      | none => none
    | none => none
  | _ => none

def prims (g : FuncId) : Option (List AV → Heap → Option (AV × Heap)) :=
  match g with
  | 47 => some pIndexByte
  | 46 => some pHasPrefix
  | 37 => some pItoa
  | 45 => some pAtoi
  | 38 => some pJoin
  | 52 => some pContains
  | _ => none

/-- What the listed variables give. -/
structure Laid (W : World) : Prop where
  tab : Lib.TabIs Tryd.prog W "internal/strconv.uint64pow10" .u64 Lib.pow10Tab
  syn : ∃ tp p, W.var? Tryd.prog "strconv.ErrSyntax" = some #[.iface tp p]
  rng : ∃ tp p, W.var? Tryd.prog "strconv.ErrRange" = some #[.iface tp p]

theorem body_of {g : FuncId} {fn : Func} (h : Tryd.prog.funcs[g]? = some fn) (hb : fn.body.isSome = true) : ∃ fn, Tryd.prog.funcs[g]? = some fn ∧ fn.body.isSome = true := ⟨fn, h, hb⟩

theorem ok47 (W : World) {G} : PrimOk Tryd.prog G W 47 pIndexByte := by
  refine .of_below (body_of Tryd.func47 (by kernel_rfl)) fun args h x h' he => ?_
  unfold pIndexByte at he
  split at he
  · rename_i s c
    simp only [Option.some.injEq, Prod.mk.injEq] at he
    obtain ⟨rfl, rfl⟩ := he
    refine ⟨rfl, fun K w vargs hv hs _ => ?_⟩
    obtain ⟨vargs⟩ := vargs
    cases hv with | cons _ c1 _ _ h1 hv => cases hv with | cons _ c2 _ _ h2 hv => cases hv with | nil =>
      rw [h1.scalar_of.1, h2.scalar_of.1]
      exact (Tryd.strings_IndexByte s c w).mono fun e w' ⟨h3, h4⟩ => ⟨_, h3, .v _ rfl, h4 ▸ .refl _ _⟩
  · cases he

theorem ok46 (W : World) {G} : PrimOk Tryd.prog G W 46 pHasPrefix := by
  refine .of_below (body_of Tryd.func46 (by kernel_rfl)) fun args h x h' he => ?_
  unfold pHasPrefix at he
  split at he
  · rename_i s c
    simp only [Option.some.injEq, Prod.mk.injEq] at he
    obtain ⟨rfl, rfl⟩ := he
    refine ⟨rfl, fun K w vargs hv hs _ => ?_⟩
    obtain ⟨vargs⟩ := vargs
    cases hv with | cons _ c1 _ _ h1 hv => cases hv with | cons _ c2 _ _ h2 hv => cases hv with | nil =>
      rw [h1.scalar_of.1, h2.scalar_of.1]
      exact (Tryd.strings_HasPrefix s c w).mono fun e w' ⟨h3, h4⟩ => ⟨_, h3, .v _ rfl, h4 ▸ .refl _ _⟩
  · cases he

theorem ok37 {W : World} (L : Laid W) {G} : PrimOk Tryd.prog G W 37 pItoa := by
  refine .of_below (body_of Tryd.func37 (by kernel_rfl)) fun args h x h' he => ?_
  unfold pItoa at he
  split at he
  · rename_i n
    split at he
    · rename_i hn
      simp only [Option.some.injEq, Prod.mk.injEq] at he
      obtain ⟨rfl, rfl⟩ := he
      refine ⟨rfl, fun K w vargs hv hs hb => ?_⟩
      obtain ⟨vargs⟩ := vargs
      cases hv with | cons _ c1 _ _ h1 hv => cases hv with | nil =>
        rw [h1.scalar_of.1]
        refine (Tryd.strconv_Itoa n hn.1 hn.2 w (var_stays hb L.tab)).mono fun e w' ⟨h3, k, os, h4⟩ => ⟨_, h3, ?_, ?_⟩
        · rw [itoaK_eq n hn.1 hn.2]; exact .v _ rfl
        · rw [h4]; exact ⟨rfl, rfl, rfl, by simp [Go.Sort.grow, World.drewN], fun j hj => by simp [Go.Sort.grow, World.drewN, Array.getElem?_append_left hj]⟩
    · cases he
  · cases he

theorem ok45 {W : World} (L : Laid W) {G} : PrimOk Tryd.prog G W 45 pAtoi := by
  refine .of_below (body_of Tryd.func45 (by kernel_rfl)) fun args h x h' he => ?_
  unfold pAtoi at he
  split at he
  · rename_i s
    split at he
    · rename_i hs0
      have fin : ∀ y, x = y → h' = h → (∀ (w : World), Below W.heap.size W w → Calls Tryd.prog 45 #[.string s] w fun e w' => ∃ v, e = .returned v ∧ (∀ K, VRel K y v) ∧ Below w.heap.size w w') →
          h' = h ∧ ∀ (K : Know) (w : World) (vargs : Array Value), VsRel K [.v (.string s)] vargs.toList → SimP Tryd.prog G W K h w → Below W.heap.size W w → Calls Tryd.prog 45 vargs w fun e w' => ∃ v, e = .returned v ∧ VRel K x v ∧ Below w.heap.size w w' := by
        intro y hxy hh hc
        refine ⟨hh, fun K w vargs hv _ hb => ?_⟩
        obtain ⟨vargs⟩ := vargs
        cases hv with | cons _ c1 _ _ h1 hv => cases hv with | nil =>
          rw [h1.scalar_of.1]
          exact (hc w hb).mono fun e w' ⟨v, h3, h4, h5⟩ => ⟨v, h3, hxy ▸ h4 K, h5⟩
      split at he
      · rename_i v hv
        simp only [Option.some.injEq, Prod.mk.injEq] at he
        refine fin _ he.1.symm he.2.symm fun w hb => ?_
        refine (Tryd.strconv_Atoi_ok s (by omega) v hv w).mono fun e w' ⟨h3, h4⟩ => ⟨_, h3, fun K => .tuple _ _ (.cons _ _ _ _ (.v _ rfl) (.cons _ _ _ _ (.v _ rfl) .nil)), ?_⟩
        rcases h4 with rfl | ⟨t, rfl⟩
        · exact .refl _ _
        · exact Lib.bytesWorld_below _ _ _
      · rename_i hv
        simp only [Option.some.injEq, Prod.mk.injEq] at he
        obtain ⟨tp, p, hvar⟩ := L.rng
        refine fin _ he.1.symm he.2.symm fun w hb => ?_
        exact (Tryd.strconv_Atoi_range_var s hs0 hv tp p w (var_stays hb hvar)).mono fun e w' ⟨N, h3, _, _, h4⟩ => ⟨_, h3, fun K => .tuple _ _ (.cons _ _ _ _ (.v _ rfl) (.cons _ _ _ _ (.iface _ _ _ (.bad _)) .nil)), h4⟩
      · rename_i hno1 hno2
        simp only [Option.some.injEq, Prod.mk.injEq] at he
        obtain ⟨tp, p, hvar⟩ := L.syn
        refine fin _ he.1.symm he.2.symm fun w hb => ?_
        cases hv : Lib.atoiAll s.data.toList with
        | ok v => exact absurd hv (hno1 v)
        | range => exact absurd hv hno2
        | _ =>
          exact (Any.strconv_Atoi_syntax_var Tryd.laysC172 s hs0 hv tp p w (var_stays hb hvar)).mono fun e w' ⟨N, h3, _, _, h4⟩ => ⟨_, h3, fun K => .tuple _ _ (.cons _ _ _ _ (.v _ rfl) (.cons _ _ _ _ (.iface _ _ _ (.bad _)) .nil)), h4⟩
    · cases he
  · cases he

theorem ok38 (W : World) {G} : PrimOk Tryd.prog G W 38 pJoin := by
  refine .of_below (body_of Tryd.func38 (by kernel_rfl)) fun args h x h' he => ?_
  unfold pJoin at he
  split at he
  · rename_i y sep
    split at he
    · rename_i rows hrows
      split at he
      · rename_i l hl
        split at he
        · rename_i hlen
          simp only [Option.some.injEq, Prod.mk.injEq] at he
          obtain ⟨rfl, rfl⟩ := he
          refine ⟨rfl, fun K w vargs hv hs _ => ?_⟩
          obtain ⟨vargs⟩ := vargs
          cases hv with | cons _ c1 _ _ h1 hv => cases hv with | cons _ c2 _ _ h2 hv => cases hv with | nil =>
            obtain ⟨a, cap, vals, rfl, r1, r2, r3⟩ := rows_cells (P := Tryd.prog) hs hrows h1
            rw [h2.scalar_of.1]
            have hvals := strsOf_rel hl r1
            have hll : l.length = rows.length := by rw [← r2, hvals, List.length_map]
            rcases r3 with rfl | ⟨bk, o, rfl, r4, r5, r6⟩
            · have : l = [] := List.eq_nil_of_length_eq_zero hll
              subst this
              exact (Tryd.strings_Join_none a cap sep w).mono fun e w' ⟨h3, h4⟩ => ⟨_, h3, .v _ rfl, h4 ▸ .refl _ _⟩
            · have hmap : ((l.map bs).map fun s => s.data.toList) = l := by
                rw [List.map_map]
                have : ((fun s : ByteArray => s.data.toList) ∘ bs) = id := by funext q; rfl
                rw [this, List.map_id]
              have := Tryd.strings_Join bk o cap (l.map bs) sep w (fun j x hx => by
                rw [List.getElem?_map] at hx
                simp only [Option.map_eq_some_iff] at hx
                obtain ⟨q, hq, rfl⟩ := hx
                exact r6 j _ (by rw [hvals, List.getElem?_map, hq]; rfl)) r5 (by rw [List.length_map, hll]; exact hlen.1) (by rw [List.length_map, hll]; exact r4) (by rw [hmap]; exact hlen.2)
              rw [List.length_map, hll, hmap] at this
              exact this.mono fun e w' ⟨h3, h4⟩ => ⟨_, h3, .v _ rfl, h4⟩
        · cases he
      · cases he
    · cases he
  · cases he

theorem ok52 (W : World) {G} : PrimOk Tryd.prog G W 52 pContains := by
  refine .of_below (body_of Tryd.func52 (by kernel_rfl)) fun args h x h' he => ?_
  unfold pContains at he
  split at he
  · rename_i y n
    split at he
    · rename_i rows hrows
      split at he
      · rename_i l hl
        split at he
        · rename_i hlen
          simp only [Option.some.injEq, Prod.mk.injEq] at he
          obtain ⟨rfl, rfl⟩ := he
          refine ⟨rfl, fun K w vargs hv hs _ => ?_⟩
          obtain ⟨vargs⟩ := vargs
          cases hv with | cons _ c1 _ _ h1 hv => cases hv with | cons _ c2 _ _ h2 hv => cases hv with | nil =>
            obtain ⟨a, cap, vals, rfl, r1, r2, r3⟩ := rows_cells (P := Tryd.prog) hs hrows h1
            rw [h2.scalar_of.1]
            have hvals := intsOf_rel hl r1
            have hll : l.length = rows.length := by rw [← r2, hvals, List.length_map]
            rcases r3 with rfl | ⟨bk, o, rfl, r4, r5, r6⟩
            · have : l = [] := List.eq_nil_of_length_eq_zero hll
              subst this
              exact (Tryd.slices_Contains_int_empty a cap n w).mono fun e w' ⟨h3, h4⟩ => ⟨_, h3, .v _ rfl, h4 ▸ .refl _ _⟩
            · have := Tryd.slices_Contains_int bk o rows.length cap l n w (by omega) hlen (fun j hj => by
                refine r6 j _ ?_
                rw [hvals, List.getElem?_map, List.getElem?_eq_getElem hj]
                simp [hj])
              rw [← hll, List.take_length] at this
              rw [hll] at this
              exact this.mono fun e w' ⟨h3, h4⟩ => ⟨_, h3, .v _ rfl, h4 ▸ .refl _ _⟩
        · cases he
      · cases he
    · cases he
  · cases he

theorem prims_ok {W : World} (L : Laid W) {G} : ∀ g p, prims g = some p → PrimOk Tryd.prog G W g p := by
  intro g p h
  unfold prims at h
  split at h
  · injection h with h; subst h; exact ok47 W
  · injection h with h; subst h; exact ok46 W
  · injection h with h; subst h; exact ok37 L
  · injection h with h; subst h; exact ok45 L
  · injection h with h; subst h; exact ok38 W
  · injection h with h; subst h; exact ok52 W
  · cases h

theorem star106 : "*" ++ "errors.errorString" = "*errors.errorString" := by decide
theorem row106 (u : TypeId) (h : Tryd.prog.typeName? 3 u = some "*errors.errorString") : u = 106 :=
  typeName_ptr_named (nm := "errors.errorString") (by rw [star106]; kernel_rfl) (by kernel_rfl) (by decide) u (by rw [star106]; exact h)

theorem laid_of {W : World} (h : laidMetH Tryd.prog Rows.lexNamesRow.laid W) : Laid W := by
  rw [MakeChecks.laidMetH_plain _ _ _ (by kernel_rfl)] at h
  have h3 := h.tail.tail
  have h4 := h3.tail
  have h5 := h4.tail
  refine ⟨Lib.tabIs_of_head (n := 20) (g := 3) (t := 100) (e := 83) (zs := Lib.pow10Tab) (by kernel_rfl) (by kernel_rfl) (by kernel_rfl) (by kernel_rfl) (by kernel_rfl) (by kernel_rfl) (by
    have e : (Lib.tabData .u64 Lib.pow10Tab : DataW Unit) = Rows.laid_internal_strconv_uint64pow10 := by kernel_rfl
    rw [e]; exact h3), ?_, ?_⟩
  · obtain ⟨a, s, h6, -⟩ := laid_sentinel (g := 0) (ti := 61) (tp := 106) (te := 108) (ts := 9) h5 (by kernel_rfl) (by kernel_rfl) Tryd.underlying61 row106 Tryd.underlying106 Tryd.underlying108 rfl rfl Tryd.underlying9 (by kernel_rfl) (by kernel_rfl)
    exact ⟨_, _, h6⟩
  · obtain ⟨a, s, h6, -⟩ := laid_sentinel (g := 1) (ti := 61) (tp := 106) (te := 108) (ts := 9) h4 (by kernel_rfl) (by kernel_rfl) Tryd.underlying61 row106 Tryd.underlying106 Tryd.underlying108 rfl rfl Tryd.underlying9 (by kernel_rfl) (by kernel_rfl)
    exact ⟨_, _, h6⟩
end Go.Proofs.YtjoifajllfdmhaaDoor
end
