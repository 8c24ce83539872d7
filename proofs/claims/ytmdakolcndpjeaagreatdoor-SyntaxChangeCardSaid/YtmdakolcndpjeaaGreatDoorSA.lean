/-
 The library's functions that the lexer's statements reach, each by its contract.
-/
import Derived.Test.YtmdakolcndpjeaaGreatDoorE4
import Derived.KernelRfl
import Derived.Test.YtmdakolcndpjeaaGreatDoorShelf
import Derived.Test.YtmdakolcndpjeaaGreatDoorRows
import Derived.Stop.LaidErr
import Derived.Stop.Joined
import Derived.Lib.LaidTab
import Derived.LaidMore
import Derived.MakeChecks
import Derived.Lib.ItoaNum
import Derived.Lib.AtoiAllCases
import Derived.Lib.Join
set_option maxHeartbeats 64000000
set_option maxRecDepth 100000
set_option linter.unusedSimpArgs false
set_option linter.unusedVariables false
set_option linter.constructorNameAsVariable false
section
namespace Go.Proofs.YtmdakolcndpjeaaGreatDoor
open Go.AE Go.RowKit

def digs : Nat → Nat → List UInt8 → List UInt8
 | 0, _, acc => acc
 | f + 1, n, acc => if n < 10 then UInt8.ofNat (48 + n) :: acc else digs f (n / 10) (UInt8.ofNat (48 + n % 10) :: acc)
theorem digs_eq : ∀ (f n : Nat) (acc : List UInt8), n < 10 ^ f → 0 < f → digs f n acc = Lib.decDigits n ++ acc := by
 intro f
 induction f with
 | zero => intro n acc h h0; omega
 | succ f ih =>
  intro n acc h _
  rw [digs, Lib.decDigits]
  by_cases hn : n < 10
  ·rw [if_pos hn, dif_pos hn]; rfl
  ·rw [if_neg hn, dif_neg hn]
   have hf : 0 < f := by
    rcases Nat.eq_zero_or_pos f with h0 | h0
    ·subst h0; simp at h; omega
    ·exact h0
   rw [ih (n / 10) _ (by rw [Nat.pow_succ] at h; omega) hf, List.append_assoc]
   rfl
def itoaK (n : Int) : List UInt8 := if n < 0 then 45 :: digs 20 n.natAbs [] else digs 20 n.toNat []
theorem itoaK_eq (n : Int) (h0 : -9223372036854775808 ≤ n) (h1 : n ≤ 9223372036854775807) : itoaK n = Lib.itoa n := by
 unfold itoaK Lib.itoa
 split
 ·rw [digs_eq _ _ _ (by omega) (by omega), List.append_nil]
 ·rw [digs_eq _ _ _ (by omega) (by omega), List.append_nil]

def strsOf : List (List AV) → Option (List (List UInt8))
 | [] => some []
 | [.v (.string s)] :: r => (strsOf r).map (s.data.toList :: ·)
 | _ => none
def intsOf : List (List AV) → Option (List Int)
 | [] => some []
 | [.v (.int .i64 n)] :: r => (intsOf r).map (n :: ·)
 | _ => none

theorem strsOf_rel {K : Know} : ∀ {rows : List (List AV)} {l : List (List UInt8)}, strsOf rows = some l → ∀ {vals : List Value}, VsRel K rows.flatten vals → vals = l.map fun s => Value.string (bs s) := by
 intro rows
 induction rows with
 | nil => intro l h vals hv; simp [strsOf] at h; subst h; cases hv; rfl
 | cons r rows ih =>
  intro l h vals hv
  unfold strsOf at h
  split at h
  ·simp at *
  ·rename_i s r' heq
   simp only [List.cons.injEq] at heq
   obtain ⟨rfl, rfl⟩ := heq
   simp only [Option.map_eq_some_iff] at h
   obtain ⟨l', hl', rfl⟩ := h
   simp only [List.flatten_cons, List.cons_append, List.nil_append] at hv
   cases hv with
   | cons _ c _ cs hx hs =>
    rw [ih hl' hs, hx.scalar_of.1]
    simp only [List.map_cons]
    rw [← bs_of]
  ·cases h

theorem intsOf_rel {K : Know} : ∀ {rows : List (List AV)} {l : List Int}, intsOf rows = some l → ∀ {vals : List Value}, VsRel K rows.flatten vals → vals = l.map fun n => Value.int .i64 n := by
 intro rows
 induction rows with
 | nil => intro l h vals hv; simp [intsOf] at h; subst h; cases hv; rfl
 | cons r rows ih =>
  intro l h vals hv
  unfold intsOf at h
  split at h
  ·simp at *
  ·rename_i s r' heq
   simp only [List.cons.injEq] at heq
   obtain ⟨rfl, rfl⟩ := heq
   simp only [Option.map_eq_some_iff] at h
   obtain ⟨l', hl', rfl⟩ := h
   simp only [List.flatten_cons, List.cons_append, List.nil_append] at hv
   cases hv with
   | cons _ c _ cs hx hs =>
    rw [ih hl' hs, hx.scalar_of.1]
    rfl
  ·cases h

def pIndexByte (args : List AV) (h : Heap) : Option (AV × Heap) :=
 match args with
 | [.v (.string s), .v (.int .u8 c)] => some (.v (.int .i64 (Lib.indexByte s.data.toList c.toNat.toUInt8)), h)
 | _ => none
def pHasPrefix (args : List AV) (h : Heap) : Option (AV × Heap) :=
 match args with
 | [.v (.string s), .v (.string p)] => some (.v (.bool (Lib.hasPrefix s.data.toList p.data.toList)), h)
 | _ => none
def pItoa (args : List AV) (h : Heap) : Option (AV × Heap) :=
 match args with
 | [.v (.int .i64 n)] => if -9223372036854775808 ≤ n ∧ n ≤ 9223372036854775807 then some (.v (.string (bs (itoaK n))), h) else none
 | _ => none
def pAtoi (args : List AV) (h : Heap) : Option (AV × Heap) :=
 match args with
 | [.v (.string s)] =>
  if s.size ≤ 281474976710656 then
   match Lib.atoiAll s.data.toList with
   | .ok v => some (.tuple [.v (.int .i64 v), .v .nilIface], h)
   | .range => some (.tuple [.v (.int .i64 (Lib.atoiSat s.data.toList)), .iface 182 .bad], h)
   | _ => some (.tuple [.v (.int .i64 0), .iface 182 .bad], h)
  else none
 | _ => none
def pJoin (args : List AV) (h : Heap) : Option (AV × Heap) :=
 match args with
 | [x, .v (.string sep)] =>
  match rowsOf h 1 x with
  | some rows =>
   match strsOf rows with
   | some l => if rows.length ≤ 140737488355328 ∧ (Lib.join l sep.data.toList).length ≤ 140737488355328 then some (.v (.string (bs (Lib.join l sep.data.toList))), h) else none
   | none => none
  | none => none
 | _ => none
def pContains (args : List AV) (h : Heap) : Option (AV × Heap) :=
 match args with
 | [x, .v (.int .i64 n)] =>
  match rowsOf h 1 x with
  | some rows =>
   match intsOf rows with
   | some l => if rows.length ≤ 9223372036854775807 then some (.v (.bool (l.contains n)), h) else none
   | none => none
  | none => none
 | _ => none

def pIndexStr (args : List AV) (h : Heap) : Option (AV × Heap) :=
 match args with
 | [x, .v (.string s)] =>
  match rowsOf h 1 x with
  | some rows =>
   match strsOf rows with
   | some l => if rows.length ≤ 9223372036854775807 then some (.v (.int .i64 (Lib.idxOfS (l.map bs) s)), h) else none
   | none => none
  | none => none
 | _ => none
def pContainsStr (args : List AV) (h : Heap) : Option (AV × Heap) :=
 match args with
 | [x, .v (.string s)] =>
  match rowsOf h 1 x with
  | some rows =>
   match strsOf rows with
   | some l => if rows.length ≤ 9223372036854775807 then some (.v (.bool (Lib.containsS (l.map bs) s)), h) else none
   | none => none
  | none => none
 | _ => none
def pHasSuffix (args : List AV) (h : Heap) : Option (AV × Heap) :=
 match args with
 | [.v (.string s), .v (.string p)] => if s.size ≤ 9223372036854775807 then some (.v (.bool (Lib.hasSuffix s.data.toList p.data.toList)), h) else none
 | _ => none
def prims0 (g : FuncId) : Option (List AV → Heap → Option (AV × Heap)) :=
 match g with
 | 103 => some pIndexByte
 | 19 => some pHasPrefix
 | 45 => some pItoa
 | 102 => some pAtoi
 | 46 => some pJoin
 | 138 => some pContains
 | 122 => some pIndexStr
 | 121 => some pContainsStr
 | 21 => some pHasSuffix
 | _ => none

def pSome (args : List AV) (h : Heap) : Option (AV × Heap) :=
 match args with
 | [.v (.string s)] => some (.agg [.v (.int .i64 1), .v (.int .i64 0), .v (.int .i64 0), .v (.string s), .list .nil 0 []], h)
 | _ => none
def prims (g : FuncId) : Option (List AV → Heap → Option (AV × Heap)) :=
 match g with
 | 103 => some pIndexByte
 | 19 => some pHasPrefix
 | 45 => some pItoa
 | 102 => some pAtoi
 | 46 => some pJoin
 | 138 => some pContains
 | 122 => some pIndexStr
 | 121 => some pContainsStr
 | 21 => some pHasSuffix
 | 20 => some pSome
 | _ => none

structure Laid (W : World) : Prop where
 tab : Lib.TabIs Tryz.prog W "internal/strconv.uint64pow10" .u64 Lib.pow10Tab
 syn : ∃ tp p, W.var? Tryz.prog "strconv.ErrSyntax" = some #[.iface tp p]
 rng : ∃ tp p, W.var? Tryz.prog "strconv.ErrRange" = some #[.iface tp p]

theorem body_of {g : FuncId} {fn : Func} (h : Tryz.prog.funcs[g]? = some fn) (hb : fn.body.isSome = true) : ∃ fn, Tryz.prog.funcs[g]? = some fn ∧ fn.body.isSome = true := ⟨fn, h, hb⟩

theorem ok103 (W : World) {G} : PrimOk Tryz.prog G W 103 pIndexByte := by
 refine .of_below (body_of Tryz.func103 (by kernel_rfl)) fun args h x h' he => ?_
 unfold pIndexByte at he
 split at he
 ·rename_i s c
  simp only [Option.some.injEq, Prod.mk.injEq] at he
  obtain ⟨rfl, rfl⟩ := he
  refine ⟨rfl, fun K w vargs hv hs _ => ?_⟩
  obtain ⟨vargs⟩ := vargs
  cases hv with | cons _ c1 _ _ h1 hv => cases hv with | cons _ c2 _ _ h2 hv => cases hv with | nil =>
   rw [h1.scalar_of.1, h2.scalar_of.1]
   exact (Tryz.strings_IndexByte s c w).mono fun e w' ⟨h3, h4⟩ => ⟨_, h3, .v _ rfl, h4 ▸ .refl _ _⟩
 ·cases he

theorem ok19 (W : World) {G} : PrimOk Tryz.prog G W 19 pHasPrefix := by
 refine .of_below (body_of Tryz.func19 (by kernel_rfl)) fun args h x h' he => ?_
 unfold pHasPrefix at he
 split at he
 ·rename_i s c
  simp only [Option.some.injEq, Prod.mk.injEq] at he
  obtain ⟨rfl, rfl⟩ := he
  refine ⟨rfl, fun K w vargs hv hs _ => ?_⟩
  obtain ⟨vargs⟩ := vargs
  cases hv with | cons _ c1 _ _ h1 hv => cases hv with | cons _ c2 _ _ h2 hv => cases hv with | nil =>
   rw [h1.scalar_of.1, h2.scalar_of.1]
   exact (Tryz.strings_HasPrefix s c w).mono fun e w' ⟨h3, h4⟩ => ⟨_, h3, .v _ rfl, h4 ▸ .refl _ _⟩
 ·cases he

theorem ok45 {W : World} (L : Laid W) {G} : PrimOk Tryz.prog G W 45 pItoa := by
 refine .of_below (body_of Tryz.func45 (by kernel_rfl)) fun args h x h' he => ?_
 unfold pItoa at he
 split at he
 ·rename_i n
  split at he
  ·rename_i hn
   simp only [Option.some.injEq, Prod.mk.injEq] at he
   obtain ⟨rfl, rfl⟩ := he
   refine ⟨rfl, fun K w vargs hv hs hb => ?_⟩
   obtain ⟨vargs⟩ := vargs
   cases hv with | cons _ c1 _ _ h1 hv => cases hv with | nil =>
    rw [h1.scalar_of.1]
    refine (Tryz.strconv_Itoa n hn.1 hn.2 w (var_stays hb L.tab)).mono fun e w' ⟨h3, k, os, h4⟩ => ⟨_, h3, ?_, ?_⟩
    ·rw [itoaK_eq n hn.1 hn.2]; exact .v _ rfl
    ·rw [h4]; exact ⟨rfl, rfl, rfl, by simp [Go.Sort.grow, World.drewN], fun j hj => by simp [Go.Sort.grow, World.drewN, Array.getElem?_append_left hj]⟩
  ·cases he
 ·cases he

theorem ok102 {W : World} (L : Laid W) {G} : PrimOk Tryz.prog G W 102 pAtoi := by
 refine .of_below (body_of Tryz.func102 (by kernel_rfl)) fun args h x h' he => ?_
 unfold pAtoi at he
 split at he
 ·rename_i s
  split at he
  ·rename_i hs0
   have fin : ∀ y, x = y → h' = h → (∀ (w : World), Below W.heap.size W w → Calls Tryz.prog 102 #[.string s] w fun e w' => ∃ v, e = .returned v ∧ (∀ K, VRel K y v) ∧ Below w.heap.size w w') →
    h' = h ∧ ∀ (K : Know) (w : World) (vargs : Array Value), VsRel K [.v (.string s)] vargs.toList → SimP Tryz.prog G W K h w → Below W.heap.size W w → Calls Tryz.prog 102 vargs w fun e w' => ∃ v, e = .returned v ∧ VRel K x v ∧ Below w.heap.size w w' := by
    intro y hxy hh hc
    refine ⟨hh, fun K w vargs hv _ hb => ?_⟩
    obtain ⟨vargs⟩ := vargs
    cases hv with | cons _ c1 _ _ h1 hv => cases hv with | nil =>
     rw [h1.scalar_of.1]
     exact (hc w hb).mono fun e w' ⟨v, h3, h4, h5⟩ => ⟨v, h3, hxy ▸ h4 K, h5⟩
   split at he
   ·rename_i v hv
    simp only [Option.some.injEq, Prod.mk.injEq] at he
    refine fin _ he.1.symm he.2.symm fun w hb => ?_
    refine (Tryz.strconv_Atoi_ok s (by omega) v hv w).mono fun e w' ⟨h3, h4⟩ => ⟨_, h3, fun K => .tuple _ _ (.cons _ _ _ _ (.v _ rfl) (.cons _ _ _ _ (.v _ rfl) .nil)), ?_⟩
    rcases h4 with rfl | ⟨t, rfl⟩
    ·exact .refl _ _
    ·exact Lib.bytesWorld_below _ _ _
   ·rename_i hv
    simp only [Option.some.injEq, Prod.mk.injEq] at he
    obtain ⟨tp, p, hvar⟩ := L.rng
    refine fin _ he.1.symm he.2.symm fun w hb => ?_
    exact (Tryz.strconv_Atoi_range_var s hs0 hv tp p w (var_stays hb hvar)).mono fun e w' ⟨N, h3, _, _, h4⟩ => ⟨_, h3, fun K => .tuple _ _ (.cons _ _ _ _ (.v _ rfl) (.cons _ _ _ _ (.iface _ _ _ (.bad _)) .nil)), h4⟩
   ·rename_i hno1 hno2
    simp only [Option.some.injEq, Prod.mk.injEq] at he
    obtain ⟨tp, p, hvar⟩ := L.syn
    refine fin _ he.1.symm he.2.symm fun w hb => ?_
    cases hv : Lib.atoiAll s.data.toList with
    | ok v => exact absurd hv (hno1 v)
    | range => exact absurd hv hno2
    | _ =>
     exact (Any.strconv_Atoi_syntax_var Tryz.laysC172 s hs0 hv tp p w (var_stays hb hvar)).mono fun e w' ⟨N, h3, _, _, h4⟩ => ⟨_, h3, fun K => .tuple _ _ (.cons _ _ _ _ (.v _ rfl) (.cons _ _ _ _ (.iface _ _ _ (.bad _)) .nil)), h4⟩
  ·cases he
 ·cases he

theorem ok46 (W : World) {G} : PrimOk Tryz.prog G W 46 pJoin := by
 refine .of_below (body_of Tryz.func46 (by kernel_rfl)) fun args h x h' he => ?_
 unfold pJoin at he
 split at he
 ·rename_i y sep
  split at he
  ·rename_i rows hrows
   split at he
   ·rename_i l hl
    split at he
    ·rename_i hlen
     simp only [Option.some.injEq, Prod.mk.injEq] at he
     obtain ⟨rfl, rfl⟩ := he
     refine ⟨rfl, fun K w vargs hv hs _ => ?_⟩
     obtain ⟨vargs⟩ := vargs
     cases hv with | cons _ c1 _ _ h1 hv => cases hv with | cons _ c2 _ _ h2 hv => cases hv with | nil =>
      obtain ⟨a, cap, vals, rfl, r1, r2, r3⟩ := rows_cells (P := Tryz.prog) hs hrows h1
      rw [h2.scalar_of.1]
      have hvals := strsOf_rel hl r1
      have hll : l.length = rows.length := by rw [← r2, hvals, List.length_map]
      rcases r3 with rfl | ⟨bk, o, rfl, r4, r5, r6⟩
      ·have : l = [] := List.eq_nil_of_length_eq_zero hll
       subst this
       exact (Tryz.strings_Join_none a cap sep w).mono fun e w' ⟨h3, h4⟩ => ⟨_, h3, .v _ rfl, h4 ▸ .refl _ _⟩
      ·have hmap : ((l.map bs).map fun s => s.data.toList) = l := by
        rw [List.map_map]
        have : ((fun s : ByteArray => s.data.toList) ∘ bs) = id := by funext q; rfl
        rw [this, List.map_id]
       have := Tryz.strings_Join bk o cap (l.map bs) sep w (fun j x hx => by
        rw [List.getElem?_map] at hx
        simp only [Option.map_eq_some_iff] at hx
        obtain ⟨q, hq, rfl⟩ := hx
        exact r6 j _ (by rw [hvals, List.getElem?_map, hq]; rfl)) r5 (by rw [List.length_map, hll]; exact hlen.1) (by rw [List.length_map, hll]; exact r4) (by rw [hmap]; exact hlen.2)
       rw [List.length_map, hll, hmap] at this
       exact this.mono fun e w' ⟨h3, h4⟩ => ⟨_, h3, .v _ rfl, h4⟩
    ·cases he
   ·cases he
  ·cases he
 ·cases he

theorem ok138 (W : World) {G} : PrimOk Tryz.prog G W 138 pContains := by
 refine .of_below (body_of Tryz.func138 (by kernel_rfl)) fun args h x h' he => ?_
 unfold pContains at he
 split at he
 ·rename_i y n
  split at he
  ·rename_i rows hrows
   split at he
   ·rename_i l hl
    split at he
    ·rename_i hlen
     simp only [Option.some.injEq, Prod.mk.injEq] at he
     obtain ⟨rfl, rfl⟩ := he
     refine ⟨rfl, fun K w vargs hv hs _ => ?_⟩
     obtain ⟨vargs⟩ := vargs
     cases hv with | cons _ c1 _ _ h1 hv => cases hv with | cons _ c2 _ _ h2 hv => cases hv with | nil =>
      obtain ⟨a, cap, vals, rfl, r1, r2, r3⟩ := rows_cells (P := Tryz.prog) hs hrows h1
      rw [h2.scalar_of.1]
      have hvals := intsOf_rel hl r1
      have hll : l.length = rows.length := by rw [← r2, hvals, List.length_map]
      rcases r3 with rfl | ⟨bk, o, rfl, r4, r5, r6⟩
      ·have : l = [] := List.eq_nil_of_length_eq_zero hll
       subst this
       exact (Tryz.slices_Contains_int_empty a cap n w).mono fun e w' ⟨h3, h4⟩ => ⟨_, h3, .v _ rfl, h4 ▸ .refl _ _⟩
      ·have := Tryz.slices_Contains_int bk o rows.length cap l n w (by omega) hlen (fun j hj => by
        refine r6 j _ ?_
        rw [hvals, List.getElem?_map, List.getElem?_eq_getElem hj]
        simp [hj])
       rw [← hll, List.take_length] at this
       rw [hll] at this
       exact this.mono fun e w' ⟨h3, h4⟩ => ⟨_, h3, .v _ rfl, h4 ▸ .refl _ _⟩
    ·cases he
   ·cases he
  ·cases he
 ·cases he

theorem ok122 (W : World) {G} : PrimOk Tryz.prog G W 122 pIndexStr := by
 refine .of_below (body_of Tryz.func122 (by kernel_rfl)) fun args h x h' he => ?_
 unfold pIndexStr at he
 split at he
 ·rename_i y s
  split at he
  ·rename_i rows hrows
   split at he
   ·rename_i l hl
    split at he
    ·rename_i hlen
     simp only [Option.some.injEq, Prod.mk.injEq] at he
     obtain ⟨rfl, rfl⟩ := he
     refine ⟨rfl, fun K w vargs hv hs _ => ?_⟩
     obtain ⟨vargs⟩ := vargs
     cases hv with | cons _ c1 _ _ h1 hv => cases hv with | cons _ c2 _ _ h2 hv => cases hv with | nil =>
      obtain ⟨a, cap, vals, rfl, r1, r2, r3⟩ := rows_cells (P := Tryz.prog) hs hrows h1
      rw [h2.scalar_of.1]
      have hvals := strsOf_rel hl r1
      have hll : l.length = rows.length := by rw [← r2, hvals, List.length_map]
      rcases r3 with rfl | ⟨bk, o, rfl, r4, r5, r6⟩
      ·have : l = [] := List.eq_nil_of_length_eq_zero hll
       subst this
       exact (Tryz.slices_Index_string_empty a cap s w).mono fun e w' ⟨h3, h4⟩ => ⟨_, h3, .v _ rfl, h4 ▸ .refl _ _⟩
      ·have := Tryz.slices_Index_string bk o rows.length cap (l.map bs) s w (by rw [List.length_map, hll]; exact Nat.le_refl _) hlen (fun j hj => by
        rw [List.length_map] at hj
        refine r6 j _ ?_
        rw [hvals, List.getElem?_map, List.getElem?_eq_getElem hj]
        simp [hj])
       rw [← hll, show (l.map bs).take l.length = l.map bs by rw [← List.length_map (f := bs), List.take_length]] at this
       rw [hll] at this
       exact this.mono fun e w' ⟨h3, h4⟩ => ⟨_, h3, .v _ rfl, h4 ▸ .refl _ _⟩
    ·cases he
   ·cases he
  ·cases he
 ·cases he
theorem ok121 (W : World) {G} : PrimOk Tryz.prog G W 121 pContainsStr := by
 refine .of_below (body_of Tryz.func121 (by kernel_rfl)) fun args h x h' he => ?_
 unfold pContainsStr at he
 split at he
 ·rename_i y s
  split at he
  ·rename_i rows hrows
   split at he
   ·rename_i l hl
    split at he
    ·rename_i hlen
     simp only [Option.some.injEq, Prod.mk.injEq] at he
     obtain ⟨rfl, rfl⟩ := he
     refine ⟨rfl, fun K w vargs hv hs _ => ?_⟩
     obtain ⟨vargs⟩ := vargs
     cases hv with | cons _ c1 _ _ h1 hv => cases hv with | cons _ c2 _ _ h2 hv => cases hv with | nil =>
      obtain ⟨a, cap, vals, rfl, r1, r2, r3⟩ := rows_cells (P := Tryz.prog) hs hrows h1
      rw [h2.scalar_of.1]
      have hvals := strsOf_rel hl r1
      have hll : l.length = rows.length := by rw [← r2, hvals, List.length_map]
      rcases r3 with rfl | ⟨bk, o, rfl, r4, r5, r6⟩
      ·have : l = [] := List.eq_nil_of_length_eq_zero hll
       subst this
       exact (Tryz.slices_Contains_string_empty a cap s w).mono fun e w' ⟨h3, h4⟩ => ⟨_, h3, .v _ rfl, h4 ▸ .refl _ _⟩
      ·have := Tryz.slices_Contains_string bk o rows.length cap (l.map bs) s w (by rw [List.length_map, hll]; exact Nat.le_refl _) hlen (fun j hj => by
        rw [List.length_map] at hj
        refine r6 j _ ?_
        rw [hvals, List.getElem?_map, List.getElem?_eq_getElem hj]
        simp [hj])
       rw [← hll, show (l.map bs).take l.length = l.map bs by rw [← List.length_map (f := bs), List.take_length]] at this
       rw [hll] at this
       exact this.mono fun e w' ⟨h3, h4⟩ => ⟨_, h3, .v _ rfl, h4 ▸ .refl _ _⟩
    ·cases he
   ·cases he
  ·cases he
 ·cases he
theorem ok21 (W : World) {G} : PrimOk Tryz.prog G W 21 pHasSuffix := by
 refine .of_below (body_of Tryz.func21 (by kernel_rfl)) fun args h x h' he => ?_
 unfold pHasSuffix at he
 split at he
 ·rename_i s c
  split at he
  ·rename_i hs0
   simp only [Option.some.injEq, Prod.mk.injEq] at he
   obtain ⟨rfl, rfl⟩ := he
   refine ⟨rfl, fun K w vargs hv hs _ => ?_⟩
   obtain ⟨vargs⟩ := vargs
   cases hv with | cons _ c1 _ _ h1 hv => cases hv with | cons _ c2 _ _ h2 hv => cases hv with | nil =>
    rw [h1.scalar_of.1, h2.scalar_of.1]
    exact (Tryz.strings_HasSuffix s c w hs0).mono fun e w' ⟨h3, h4⟩ => ⟨_, h3, .v _ rfl, h4 ▸ .refl _ _⟩
  ·cases he
 ·cases he
theorem prims0_ok {W : World} (L : Laid W) {G} : ∀ g p, prims0 g = some p → PrimOk Tryz.prog G W g p := by
 intro g p h
 unfold prims0 at h
 split at h
 ·injection h with h; subst h; exact ok103 W
 ·injection h with h; subst h; exact ok19 W
 ·injection h with h; subst h; exact ok45 L
 ·injection h with h; subst h; exact ok102 L
 ·injection h with h; subst h; exact ok46 W
 ·injection h with h; subst h; exact ok138 W
 ·injection h with h; subst h; exact ok122 W
 ·injection h with h; subst h; exact ok121 W
 ·injection h with h; subst h; exact ok21 W
 ·cases h

theorem star208 : "*" ++ "errors.errorString" = "*errors.errorString" := by decide
theorem row208 (u : TypeId) (h : Tryz.prog.typeName? 3 u = some "*errors.errorString") : u = 208 :=
 typeName_ptr_named (nm := "errors.errorString") (by rw [star208]; kernel_rfl) (by kernel_rfl) (by decide) u (by rw [star208]; exact h)

theorem laid_of {W : World} (h : laidMetH Tryz.prog Rows.syntaxBackRow.laid W) : Laid W := by
 rw [MakeChecks.laidMetH_plain _ _ _ (by kernel_rfl)] at h
 have h3 := h.tail.tail
 have h4 := h3.tail
 have h5 := h4.tail
 refine ⟨Lib.tabIs_of_head (n := 20) (g := 4) (t := 202) (e := 186) (zs := Lib.pow10Tab) (by kernel_rfl) (by kernel_rfl) (by kernel_rfl) (by kernel_rfl) (by kernel_rfl) (by kernel_rfl) (by
  have e : (Lib.tabData .u64 Lib.pow10Tab : DataW Unit) = Rows.laid_internal_strconv_uint64pow10 := by kernel_rfl
  rw [e]; exact h3), ?_, ?_⟩
 ·obtain ⟨a, s, h6, -⟩ := laid_sentinel (g := 1) (ti := 135) (tp := 208) (te := 210) (ts := 9) h5 (by kernel_rfl) (by kernel_rfl) Tryz.underlying135 row208 Tryz.underlying208 Tryz.underlying210 rfl rfl Tryz.underlying9 (by kernel_rfl) (by kernel_rfl)
  exact ⟨_, _, h6⟩
 ·obtain ⟨a, s, h6, -⟩ := laid_sentinel (g := 2) (ti := 135) (tp := 208) (te := 210) (ts := 9) h4 (by kernel_rfl) (by kernel_rfl) Tryz.underlying135 row208 Tryz.underlying208 Tryz.underlying210 rfl rfl Tryz.underlying9 (by kernel_rfl) (by kernel_rfl)
  exact ⟨_, _, h6⟩
def Gt : Nat → Option (List AV) := fun g => if g = 1039069 then some [] else none
theorem gt_ok {V : World} : ∀ g cs, Gt g = some cs → ∃ cells, VsRel (Know.init V) cs cells ∧ ∀ (j : Nat) (c : Value), cells[j]? = some c → V.cell? ⟨g, j, none⟩ = some c := by
 intro g cs h
 unfold Gt at h
 split at h
 ·injection h with h; subst h
  exact ⟨[], .nil, fun j c hc => by simp at hc⟩
 ·cases h
theorem append_gt {h : Heap} {d : Nat} {ts : Array TypeId} {ty : Nat} {s x : AV} (hne : 1000 * ty + d ≠ 39069) : builtinT Tryz.prog Gt (some d) h .append ts ty [s, x] = appendEv Tryz.prog h ts s x := by
 refine append_list ?_
 have : ¬ 1000000 + 1000 * ty + d = 1039069 := by omega
 show (Gt (1000000 + 1000 * ty + d)).isSome = false
 unfold Gt
 rw [if_neg this]; rfl
theorem append_gt_yes {h : Heap} {ts : Array TypeId} {s x : AV} : builtinT Tryz.prog Gt (some 69) h .append ts 39 [s, x] = thawEv Tryz.prog h ts s x := append_thaw rfl
end Go.Proofs.YtmdakolcndpjeaaGreatDoor
end

section
namespace Go.Lex
open Go.AE

structure Keep (p : Prop) : Prop where
 out : p

def letter (b : UInt8) : Bool := (decide (97 ≤ b.toNat) && decide (b.toNat ≤ 122)) || (decide (65 ≤ b.toNat) && decide (b.toNat ≤ 90))
def digit (b : UInt8) : Bool := decide (48 ≤ b.toNat) && decide (b.toNat ≤ 57)
def white (b : UInt8) : Bool := decide (b.toNat = 32) || decide (b.toNat = 9) || decide (b.toNat = 10) || decide (b.toNat = 13)
def signs : List UInt8 := [123, 125, 40, 41, 59, 44, 61, 58, 46, 60, 62, 33, 43, 45, 42, 47]
def isSign (b : UInt8) : Bool := signs.contains b
def cls (b : UInt8) : Int := if letter b then 2 else if digit b then 3 else if b.toNat = 95 then 5 else if white b then 1 else if isSign b then 4 else 0
def partB (b : UInt8) : Bool := letter b || digit b || decide (b.toNat = 95)
def nameB (l : List UInt8) : Bool := decide (1 ≤ l.length) && decide (l.length ≤ 32) && letter (l.getD 0 0) && l.all partB
structure Tk where
 kind : Int
 text : List UInt8
 n : Int
 at_ : Int
 deriving DecidableEq
def Tk.row (t : Tk) : List AV := [.v (.int .i64 t.kind), .v (.string (bs t.text)), .v (.int .i64 t.n), .v (.int .i64 t.at_)]
def validB (t : Tk) : Bool :=
 if t.kind = 1 then nameB t.text && decide (t.n = 0)
 else if t.kind = 2 then decide (t.text = []) && decide (0 ≤ t.n) && decide (t.n ≤ 1099511627776)
 else if t.kind = 3 then decide (t.text.length = 1) && isSign (t.text.getD 0 0) && decide (t.n = 0)
 else false
def toks (l : List Tk) : List (List AV) := l.map Tk.row
def sameT (x y : Tk) : Bool := decide (x.kind = y.kind) && decide (x.text = y.text) && decide (x.n = y.n)
def sameB : List Tk → List Tk → Bool
 | [], [] => true
 | x :: a, y :: b => sameT x y && sameB a b
 | _, _ => false
def textOf (t : Tk) : List UInt8 := if t.kind = 2 then Lib.decDigits t.n.toNat else t.text
def joinS (l : List Tk) : List UInt8 := Lib.join (l.map textOf) [32]

def num : List UInt8 → Nat → Nat
 | [], n => n
 | b :: r, n => num r (10 * n + (b.toNat - 48))
def numOk (t : List UInt8) : Bool := decide (num t 0 ≤ 1099511627776) && decide (Lib.decDigits (num t 0) = t)

def stepB (c : UInt8) (r : List UInt8) : Option (Nat × Option (Int × List UInt8 × Int)) :=
 if white c then some (1, none)
 else if c = 47 ∧ r.head? = some 47 then some (((c :: r).takeWhile (fun b => b != 10)).length, none)
 else if letter c then
  if nameB ((c :: r).takeWhile partB) then some (((c :: r).takeWhile partB).length, some (1, (c :: r).takeWhile partB, 0)) else none
 else if digit c then
  if numOk ((c :: r).takeWhile digit) then some (((c :: r).takeWhile digit).length, some (2, [], num ((c :: r).takeWhile digit) 0)) else none
 else if isSign c then some (1, some (3, [c], 0))
 else none

def addTk (o : Option (Int × List UInt8 × Int)) (k : Nat) (l : List Tk) : List Tk :=
 match o with
 | none => l
 | some (a, t, n) => ⟨a, t, n, k⟩ :: l

inductive Out where
 | ok (l : List Tk)
 | wrong (k : Nat)
 deriving DecidableEq

def Out.add (o : Option (Int × List UInt8 × Int)) (k : Nat) : Out → Out
 | .ok l => .ok (addTk o k l)
 | .wrong i => .wrong i

def lexR : List UInt8 → Nat → Out
 | [], _ => .ok []
 | c :: r, k =>
  match stepB c r with
  | none => .wrong k
  | some (n, o) => (lexR (r.drop (n - 1)) (k + n)).add o k
termination_by s => s.length
decreasing_by simp; omega

theorem lexR_nil (k : Nat) : lexR [] k = .ok [] := by rw [lexR]
theorem lexR_none {c : UInt8} {r : List UInt8} {k : Nat} (h : stepB c r = none) : lexR (c :: r) k = .wrong k := by rw [lexR, h]
theorem lexR_some {c : UInt8} {r : List UInt8} {k n : Nat} {o : Option (Int × List UInt8 × Int)} (h : stepB c r = some (n, o)) : lexR (c :: r) k = (lexR (r.drop (n - 1)) (k + n)).add o k := by rw [lexR, h]
end Go.Lex
end

section
namespace Go.Proofs.YtmdakolcndpjeaaGreatDoor
open Go.AE Go.Lex
noncomputable abbrev W := whole Tryz.prog Gt prims

theorem ev47 (l : List UInt8) (c : Int) (h : Heap) : W.call 103 [.v (.string (bs l)), .v (.int .u8 c)] h = some (.ret (.v (.int .i64 (Lib.indexByte l c.toNat.toUInt8))), h) := by
 rw [whole_call]; rfl
theorem indexByte_mem : ∀ (l : List UInt8) (c : UInt8), 0 ≤ Lib.indexByte l c ↔ c ∈ l := by
 intro l c
 induction l with
 | nil => simp [Lib.indexByte]
 | cons b l ih =>
  unfold Lib.indexByte
  have hge := Lib.indexByte_ge l c
  by_cases hb : b = c
  ·simp [hb]
  ·have hb' : (b == c) = false := by simpa using hb
   simp only [hb', Bool.false_eq_true, if_false, List.mem_cons, Ne.symm hb, false_or]
   rw [← ih]
   by_cases h1 : Lib.indexByte l c = -1
   ·simp [h1]
   ·simp [h1]; omega


theorem res30 : Tryz.f43.results.toList = [.tmp 2] := by kernel_rfl
def ixs (b : UInt8) : Int := Lib.indexByte signs b
theorem ixs_ge (b : UInt8) : (0 ≤ ixs b) = (isSign b = true) := by
 unfold ixs
 rw [indexByte_mem]
 simp [isSign]
theorem ev47s (b : UInt8) (h : Heap) : W.call 103 [.v (.string (bs [123, 125, 40, 41, 59, 44, 61, 58, 46, 60, 62, 33, 43, 45, 42, 47])), .v (.int .u8 b.toNat)] h = some (.ret (.v (.int .i64 (ixs b))), h) := by
 rw [ev47]
 have hb : ((b.toNat : Int)).toNat.toUInt8 = b := by simp
 rw [hb]
 rfl
theorem cls_of (b : UInt8) {P : Int → Prop} (h1 : letter b = true → P 2) (h2 : letter b = false → digit b = true → P 3) (h3 : letter b = false → digit b = false → b.toNat = 95 → P 5)
 (h4 : letter b = false → digit b = false → b.toNat ≠ 95 → white b = true → P 1) (h5 : letter b = false → digit b = false → b.toNat ≠ 95 → white b = false → isSign b = true → P 4)
 (h6 : letter b = false → digit b = false → b.toNat ≠ 95 → white b = false → isSign b = false → P 0) : P (cls b) := by
 unfold cls
 cases e1 : letter b <;> cases e2 : digit b <;> cases e4 : white b <;> cases e5 : isSign b <;> by_cases e3 : b.toNat = 95 <;> simp_all
theorem class_ev (b : UInt8) (h : Heap) : W.call 43 [.v (.int .u8 b.toNat)] h = some (.ret (.v (.int .i64 (cls b))), h) := by
 refine call_of_run rfl Tryz.func43 rfl ?_
 repeat' (first | (simp (config := { maxSteps := 4000000 }) (disch := first | assumption | omega | (simp only [lenL] <;> omega)) only [goS, append_gt, append_gt_yes, plainEv, resultsEv, resultListEv, reduceIte, Nat.reduceEqDiff, goT, beq_self_eq_true, ev47s, res30, ixs_ge, *]; done) | simp (config := { maxSteps := 4000000 }) (disch := first | assumption | omega | (simp only [lenL]; omega)) only [goS, append_gt, append_gt_yes, plainEv, resultsEv, resultListEv, reduceIte, Nat.reduceEqDiff, goT, beq_self_eq_true, ev47s, res30, ixs_ge, *] | ((first | refine G_d ?_ ?_ | refine G_n ?_ ?_ | refine B_d ?_ ?_ | refine B_n ?_ ?_) <;> (intro _; try (exfalso; omega))) | refine run_draw (by kernel_rfl) ?_ | ((first | refine G_m ?_ ?_ | refine B_m ?_ ?_ | refine G_b ?_ ?_ | refine B_b ?_ ?_) <;> intro _))
 all_goals rw [Option.some.injEq, Prod.mk.injEq, Res.ret.injEq, AV.v.injEq, Value.int.injEq]
 all_goals refine ⟨⟨rfl, ?_⟩, rfl⟩
 all_goals (apply cls_of b <;> intros <;> simp_all [letter, digit, white] <;> omega)
end Go.Proofs.YtmdakolcndpjeaaGreatDoor
end

section
namespace Go.Proofs.YtmdakolcndpjeaaGreatDoor
open Go.AE Go.Lex
theorem res31 : Tryz.f109.results.toList = [.tmp 2] := by kernel_rfl
theorem res33 : Tryz.f145.results.toList = [.tmp 2] := by kernel_rfl
theorem res32 : Tryz.f110.results.toList = [.tmp 2] := by kernel_rfl
theorem res35 : Tryz.f48.results.toList = [.tmp 2] := by kernel_rfl
theorem letter_ev (b : UInt8) (h : Heap) : W.call 109 [.v (.int .u8 b.toNat)] h = some (.ret (.v (.bool (letter b))), h) := by
 refine call_of_run rfl Tryz.func109 rfl ?_
 repeat' (first | (simp (config := { maxSteps := 4000000 }) (disch := first | assumption | omega | (simp only [lenL] <;> omega)) only [goS, append_gt, append_gt_yes, plainEv, resultsEv, resultListEv, reduceIte, Nat.reduceEqDiff, goT, beq_self_eq_true, res31, *]; done) | simp (config := { maxSteps := 4000000 }) (disch := first | assumption | omega | (simp only [lenL]; omega)) only [goS, append_gt, append_gt_yes, plainEv, resultsEv, resultListEv, reduceIte, Nat.reduceEqDiff, goT, beq_self_eq_true, res31, *] | ((first | refine G_d ?_ ?_ | refine G_n ?_ ?_ | refine B_d ?_ ?_ | refine B_n ?_ ?_) <;> (intro _; try (exfalso; omega))) | refine run_draw (by kernel_rfl) ?_ | ((first | refine G_m ?_ ?_ | refine B_m ?_ ?_ | refine G_b ?_ ?_ | refine B_b ?_ ?_) <;> intro _))
 all_goals (rw [Option.some.injEq, Prod.mk.injEq, Res.ret.injEq, AV.v.injEq, Value.bool.injEq]; refine ⟨?_, rfl⟩; try rw [Bool.eq_iff_iff])
 all_goals (simp [letter]; omega)
theorem figure_ev (b : UInt8) (h : Heap) : W.call 145 [.v (.int .u8 b.toNat)] h = some (.ret (.v (.bool (digit b))), h) := by
 refine call_of_run rfl Tryz.func145 rfl ?_
 repeat' (first | (simp (config := { maxSteps := 4000000 }) (disch := first | assumption | omega | (simp only [lenL] <;> omega)) only [goS, append_gt, append_gt_yes, plainEv, resultsEv, resultListEv, reduceIte, Nat.reduceEqDiff, goT, beq_self_eq_true, res33, *]; done) | simp (config := { maxSteps := 4000000 }) (disch := first | assumption | omega | (simp only [lenL]; omega)) only [goS, append_gt, append_gt_yes, plainEv, resultsEv, resultListEv, reduceIte, Nat.reduceEqDiff, goT, beq_self_eq_true, res33, *] | ((first | refine G_d ?_ ?_ | refine G_n ?_ ?_ | refine B_d ?_ ?_ | refine B_n ?_ ?_) <;> (intro _; try (exfalso; omega))) | refine run_draw (by kernel_rfl) ?_ | ((first | refine G_m ?_ ?_ | refine B_m ?_ ?_ | refine G_b ?_ ?_ | refine B_b ?_ ?_) <;> intro _))
 all_goals (rw [Option.some.injEq, Prod.mk.injEq, Res.ret.injEq, AV.v.injEq, Value.bool.injEq]; refine ⟨?_, rfl⟩; try rw [Bool.eq_iff_iff])
 all_goals (simp [digit]; omega)
theorem part_ev (b : UInt8) (h : Heap) : W.call 110 [.v (.int .u8 b.toNat)] h = some (.ret (.v (.bool (partB b))), h) := by
 refine call_of_run rfl Tryz.func110 rfl ?_
 repeat' (first | (simp (config := { maxSteps := 4000000 }) (disch := first | assumption | omega | (simp only [lenL] <;> omega)) only [goS, append_gt, append_gt_yes, plainEv, resultsEv, resultListEv, reduceIte, Nat.reduceEqDiff, goT, beq_self_eq_true, res32, letter_ev, figure_ev, *]; done) | simp (config := { maxSteps := 4000000 }) (disch := first | assumption | omega | (simp only [lenL]; omega)) only [goS, append_gt, append_gt_yes, plainEv, resultsEv, resultListEv, reduceIte, Nat.reduceEqDiff, goT, beq_self_eq_true, res32, letter_ev, figure_ev, *] | ((first | refine G_d ?_ ?_ | refine G_n ?_ ?_ | refine B_d ?_ ?_ | refine B_n ?_ ?_) <;> (intro _; try (exfalso; omega))) | refine run_draw (by kernel_rfl) ?_ | ((first | refine G_m ?_ ?_ | refine B_m ?_ ?_ | refine G_b ?_ ?_ | refine B_b ?_ ?_) <;> intro _))
 all_goals (rw [Option.some.injEq, Prod.mk.injEq, Res.ret.injEq, AV.v.injEq, Value.bool.injEq]; refine ⟨?_, rfl⟩; try rw [Bool.eq_iff_iff])
 all_goals (simp_all [partB]; try omega)
end Go.Proofs.YtmdakolcndpjeaaGreatDoor
end

section
namespace Go.Proofs.YtmdakolcndpjeaaGreatDoor
open Go.AE Go.Lex
theorem signs_len : signs.length = 16 := rfl
theorem signs_mk : bs [123, 125, 40, 41, 59, 44, 61, 58, 46, 60, 62, 33, 43, 45, 42, 47] = bs signs := rfl
theorem getD_mem {l : List UInt8} {b : UInt8} : b ∈ l ↔ ∃ j, j < l.length ∧ l.getD j 0 = b := by
 rw [List.mem_iff_getElem]
 constructor
 ·rintro ⟨j, hj, rfl⟩; exact ⟨j, hj, by simp [hj]⟩
 ·rintro ⟨j, hj, rfl⟩; exact ⟨j, hj, by simp [hj]⟩
theorem u8_int {a b : UInt8} : ((a.toNat : Int) = b.toNat) = (a = b) := by
 rw [Int.ofNat_inj, UInt8.toNat_inj]
theorem sign_ev (b : UInt8) (h : Heap) : W.call 48 [.v (.int .u8 b.toNat)] h = some (.ret (.v (.bool (isSign b))), h) := by
 refine call_of_run rfl Tryz.func48 rfl ?_
 simp (disch := omega) only [goS, append_gt, append_gt_yes, plainEv, resultsEv, resultListEv, reduceIte, Nat.reduceEqDiff, goT, beq_self_eq_true, signs_mk]
 refine run_loop (fun n e h' => ∃ i : Nat, i ≤ 16 ∧ n = 16 - i ∧ e.get 0 = .v (.int .u8 b.toNat) ∧ e.get 3 = .v (.string (bs signs)) ∧ e.get 4 = .v (.int .i64 i) ∧ e.defers = [] ∧ h' = h ∧ ∀ j, j < i → signs.getD j 0 ≠ b) ?_ 16 _ _ ?_
 ·have u9 := Tryz.underlying9; have sl := signs_len
  rintro n e h' ⟨i, hi, rfl, g0, g3, g4, hd, rfl, hno⟩
  repeat' (first | (simp (config := { maxSteps := 4000000 }) (disch := first | assumption | omega | (simp only [lenL] <;> omega)) only [goS, append_gt, append_gt_yes, plainEv, resultsEv, resultListEv, reduceIte, Nat.reduceEqDiff, goT, beq_self_eq_true, res35, signs_len, u8_int, *]; done) | simp (config := { maxSteps := 4000000 }) (disch := first | assumption | omega | (simp only [lenL]; omega)) only [goS, append_gt, append_gt_yes, plainEv, resultsEv, resultListEv, reduceIte, Nat.reduceEqDiff, goT, beq_self_eq_true, res35, signs_len, u8_int, *] | ((first | refine G_d ?_ ?_ | refine G_n ?_ ?_ | refine B_d ?_ ?_ | refine B_n ?_ ?_) <;> (intro _; try (exfalso; omega))) | refine run_draw (by kernel_rfl) ?_ | ((first | refine G_m ?_ ?_ | refine B_m ?_ ?_ | refine G_b ?_ ?_ | refine B_b ?_ ?_) <;> intro _))
  ·rw [Option.some.injEq, Prod.mk.injEq, Res.ret.injEq, AV.v.injEq, Value.bool.injEq]
   refine ⟨?_, rfl⟩
   have : b ∈ signs := getD_mem.2 ⟨i, by omega, by assumption⟩
   simp [isSign, this]
  ·refine ⟨16 - (i + 1), by omega, i + 1, by omega, rfl, ?_⟩
   refine ⟨trivial, trivial, by simp, trivial, trivial, fun j hj => ?_⟩
   ·rcases Nat.lt_or_ge j i with h1 | h1
    ·exact hno j h1
    ·rw [Nat.le_antisymm (Nat.lt_succ_iff.1 hj) h1]; assumption
  ·rw [Option.some.injEq, Prod.mk.injEq, Res.ret.injEq, AV.v.injEq, Value.bool.injEq]
   refine ⟨?_, rfl⟩
   have : b ∉ signs := fun hm => by
    obtain ⟨j, hj, he⟩ := getD_mem.1 hm
    exact hno j (by omega) he
   simp [isSign, this]
 ·refine ⟨0, by omega, rfl, ?_, ?_, ?_, ?_, rfl, fun j hj => absurd hj (Nat.not_lt_zero j)⟩ <;> simp only [goS, append_gt, append_gt_yes, plainEv, resultsEv, resultListEv, reduceIte, Nat.reduceEqDiff, goT, beq_self_eq_true] <;> rfl
end Go.Proofs.YtmdakolcndpjeaaGreatDoor
end

section
namespace Go.Proofs.YtmdakolcndpjeaaGreatDoor
open Go.AE Go.Lex
theorem res20 : Tryz.f104.results.toList = [.tmp 2] := by kernel_rfl
theorem res21 : Tryz.f47.results.toList = [.tmp 2] := by kernel_rfl


theorem all_getD {l : List UInt8} {p : UInt8 → Bool} : l.all p = true ↔ ∀ j, j < l.length → p (l.getD j 0) = true := by
 rw [List.all_eq_true]
 constructor
 ·intro h j hj
  exact h _ (getD_mem.2 ⟨j, hj, rfl⟩)
 ·intro h x hx
  obtain ⟨j, hj, rfl⟩ := getD_mem.1 hx
  exact h j hj

theorem cls_letter (b : UInt8) : (cls b = 2) = (letter b = true) := by
 apply cls_of b (P := fun c => (c = 2) = (letter b = true)) <;> intros <;> simp_all
theorem letter_digit (b : UInt8) (h : digit b = true) : letter b = false := by
 unfold digit letter at *
 simp at h
 rw [Bool.eq_false_iff]
 simp
 omega
theorem part_of (b : UInt8) : partB b = (decide (cls b = 2) || decide (cls b = 3) || decide (cls b = 5)) := by
 apply cls_of b (P := fun c => partB b = (decide (c = 2) || decide (c = 3) || decide (c = 5))) <;> intros <;> simp_all [partB]

theorem answer {b c : Bool} {h : Heap} (hb : b = c) : (some (Res.ret (AV.v (.bool b)), h) : Option (Res × Heap)) = some (.ret (.v (.bool c)), h) := by rw [hb]

theorem refName_ev (l : List UInt8) (h : Heap) : W.call 47 [.v (.string (bs l))] h = some (.ret (.v (.bool (nameB l))), h) := by
 have u9 := Tryz.underlying9
 refine call_of_run rfl Tryz.func47 rfl ?_
 repeat' (first | (simp (config := { maxSteps := 4000000 }) (disch := first | assumption | omega | (simp only [lenL] <;> omega)) only [goS, append_gt, append_gt_yes, plainEv, resultsEv, resultListEv, reduceIte, Nat.reduceEqDiff, goT, beq_self_eq_true, res21, letter_ev, Int.toNat_zero, *]; done) | simp (config := { maxSteps := 4000000 }) (disch := first | assumption | omega | (simp only [lenL]; omega)) only [goS, append_gt, append_gt_yes, plainEv, resultsEv, resultListEv, reduceIte, Nat.reduceEqDiff, goT, beq_self_eq_true, res21, letter_ev, Int.toNat_zero, *] | ((first | refine G_d ?_ ?_ | refine G_n ?_ ?_ | refine B_d ?_ ?_ | refine B_n ?_ ?_) <;> (intro _; try (exfalso; omega))) | refine run_draw (by kernel_rfl) ?_ | ((first | refine G_m ?_ ?_ | refine B_m ?_ ?_ | refine G_b ?_ ?_ | refine B_b ?_ ?_) <;> intro _))
 ·exact answer (by simp [nameB]; omega)
 ·exact answer (by simp [nameB]; omega)
 ·refine run_loop (fun n e h' => ∃ i : Nat, i ≤ l.length ∧ n = l.length - i ∧ e.get 0 = .v (.string (bs l)) ∧ e.get 3 = .v (.int .i64 i) ∧ e.defers = [] ∧ h' = h ∧ ∀ j, j < i → partB (l.getD j 0) = true) ?_ l.length _ _ ?_
  ·rintro n e h' ⟨i, hi, rfl, g0, g3, hd, rfl, hno⟩
   repeat' (first | (simp (config := { maxSteps := 4000000 }) (disch := first | assumption | omega | (simp only [lenL] <;> omega)) only [goS, append_gt, append_gt_yes, plainEv, resultsEv, resultListEv, reduceIte, Nat.reduceEqDiff, goT, beq_self_eq_true, res21, part_ev, *]; done) | simp (config := { maxSteps := 4000000 }) (disch := first | assumption | omega | (simp only [lenL]; omega)) only [goS, append_gt, append_gt_yes, plainEv, resultsEv, resultListEv, reduceIte, Nat.reduceEqDiff, goT, beq_self_eq_true, res21, part_ev, *] | ((first | refine G_d ?_ ?_ | refine G_n ?_ ?_ | refine B_d ?_ ?_ | refine B_n ?_ ?_) <;> (intro _; try (exfalso; omega))) | refine run_draw (by kernel_rfl) ?_ | ((first | refine G_m ?_ ?_ | refine B_m ?_ ?_ | refine G_b ?_ ?_ | refine B_b ?_ ?_) <;> intro _))
   ·refine ⟨l.length - (i + 1), by omega, i + 1, by omega, rfl, trivial, by simp, trivial, trivial, fun j hj => ?_⟩
    rcases Nat.lt_or_ge j i with h1 | h1
    ·exact hno j h1
    ·rw [Nat.le_antisymm (Nat.lt_succ_iff.1 hj) h1]; assumption
   ·refine answer ?_
    have : l.all partB = false := by
     rw [Bool.eq_false_iff]
     intro ha
     have h1 := all_getD.1 ha i (by omega)
     simp_all
    simp [nameB, this]
   ·refine answer ?_
    have : l.all partB = true := all_getD.2 fun j hj => hno j (by omega)
    simp_all [nameB]
    omega
  ·refine ⟨0, by omega, rfl, ?_, ?_, ?_, rfl, fun j hj => absurd hj (Nat.not_lt_zero j)⟩ <;> simp only [goS, append_gt, append_gt_yes, plainEv, resultsEv, resultListEv, reduceIte, Nat.reduceEqDiff, goT, beq_self_eq_true] <;> rfl
 ·exact answer (by simp_all [nameB])

theorem name_ev (l : List UInt8) (h : Heap) : W.call 104 [.v (.string (bs l))] h = some (.ret (.v (.bool (nameB l))), h) := by
 have u9 := Tryz.underlying9
 rcases Nat.eq_zero_or_pos l.length with h0 | h0
 ·have : l = [] := List.eq_nil_of_length_eq_zero h0
  subst this
  clear h0
  refine call_of_run rfl Tryz.func104 rfl ?_
  repeat' (first | (simp (config := { maxSteps := 4000000 }) (disch := first | assumption | omega | (simp only [lenL] <;> omega)) only [goS, append_gt, append_gt_yes, plainEv, resultsEv, resultListEv, reduceIte, Nat.reduceEqDiff, goT, beq_self_eq_true, res20, *]; done) | simp (config := { maxSteps := 4000000 }) (disch := first | assumption | omega | (simp only [lenL]; omega)) only [goS, append_gt, append_gt_yes, plainEv, resultsEv, resultListEv, reduceIte, Nat.reduceEqDiff, goT, beq_self_eq_true, res20, *] | ((first | refine G_d ?_ ?_ | refine G_n ?_ ?_ | refine B_d ?_ ?_ | refine B_n ?_ ?_) <;> (intro _; try (exfalso; omega))) | refine run_draw (by kernel_rfl) ?_ | ((first | refine G_m ?_ ?_ | refine B_m ?_ ?_ | refine G_b ?_ ?_ | refine B_b ?_ ?_) <;> intro _))
  exact answer rfl
 have hne : ¬ l = [] := by rintro rfl; simp at h0
 refine call_of_run rfl Tryz.func104 rfl ?_
 repeat' (first | (simp (config := { maxSteps := 4000000 }) (disch := first | assumption | omega | (simp only [lenL] <;> omega)) only [goS, append_gt, append_gt_yes, plainEv, resultsEv, resultListEv, reduceIte, Nat.reduceEqDiff, goT, beq_self_eq_true, res20, class_ev, Int.toNat_zero, cls_letter, *]; done) | simp (config := { maxSteps := 4000000 }) (disch := first | assumption | omega | (simp only [lenL]; omega)) only [goS, append_gt, append_gt_yes, plainEv, resultsEv, resultListEv, reduceIte, Nat.reduceEqDiff, goT, beq_self_eq_true, res20, class_ev, Int.toNat_zero, cls_letter, *] | ((first | refine G_d ?_ ?_ | refine G_n ?_ ?_ | refine B_d ?_ ?_ | refine B_n ?_ ?_) <;> (intro _; try (exfalso; omega))) | refine run_draw (by kernel_rfl) ?_ | ((first | refine G_m ?_ ?_ | refine B_m ?_ ?_ | refine G_b ?_ ?_ | refine B_b ?_ ?_) <;> intro _))
 ·exact answer (by simp [nameB]; omega)
 ·refine run_loop (fun n e h' => ∃ i : Nat, i ≤ l.length ∧ n = l.length - i ∧ e.get 0 = .v (.string (bs l)) ∧ e.get 19 = .v (.int .i64 l.length) ∧ e.get 20 = .v (.int .i64 i) ∧ e.defers = [] ∧ h' = h ∧ ∀ j, j < i → partB (l.getD j 0) = true) ?_ l.length _ _ ?_
  ·rintro n e h' ⟨i, hi, rfl, g0, g19, g20, hd, rfl, hno⟩
   repeat' (first | (simp (config := { maxSteps := 4000000 }) (disch := first | assumption | omega | (simp only [lenL] <;> omega)) only [goS, append_gt, append_gt_yes, plainEv, resultsEv, resultListEv, reduceIte, Nat.reduceEqDiff, goT, beq_self_eq_true, res20, class_ev, *]; done) | simp (config := { maxSteps := 4000000 }) (disch := first | assumption | omega | (simp only [lenL]; omega)) only [goS, append_gt, append_gt_yes, plainEv, resultsEv, resultListEv, reduceIte, Nat.reduceEqDiff, goT, beq_self_eq_true, res20, class_ev, *] | ((first | refine G_d ?_ ?_ | refine G_n ?_ ?_ | refine B_d ?_ ?_ | refine B_n ?_ ?_) <;> (intro _; try (exfalso; omega))) | refine run_draw (by kernel_rfl) ?_ | ((first | refine G_m ?_ ?_ | refine B_m ?_ ?_ | refine G_b ?_ ?_ | refine B_b ?_ ?_) <;> intro _))
   iterate 3
    ·refine ⟨l.length - (i + 1), by omega, i + 1, by omega, rfl, trivial, trivial, by simp, trivial, trivial, fun j hj => ?_⟩
     rcases Nat.lt_or_ge j i with h1 | h1
     ·exact hno j h1
     ·rw [Nat.le_antisymm (Nat.lt_succ_iff.1 hj) h1, part_of]; simp_all
   ·refine answer ?_
    have : l.all partB = false := by
     rw [Bool.eq_false_iff]
     intro ha
     have h1 := all_getD.1 ha i (by omega)
     rw [part_of] at h1
     simp_all
    simp [nameB, this]
   ·refine answer ?_
    have : l.all partB = true := all_getD.2 fun j hj => hno j (by omega)
    simp_all [nameB]
    omega
  ·refine ⟨0, by omega, rfl, ?_, ?_, ?_, ?_, rfl, fun j hj => absurd hj (Nat.not_lt_zero j)⟩ <;> simp only [goS, append_gt, append_gt_yes, plainEv, resultsEv, resultListEv, reduceIte, Nat.reduceEqDiff, goT, beq_self_eq_true] <;> rfl
 ·exact answer (by simp_all [nameB])
end Go.Proofs.YtmdakolcndpjeaaGreatDoor
end

section
namespace Go.Proofs.YtmdakolcndpjeaaGreatDoor
open Go.AE Go.Lex
theorem ag3 : isAggB Tryz.prog 3 = some false := by kernel_rfl
theorem ag9 : isAggB Tryz.prog 9 = some false := by kernel_rfl
theorem ag43 : isAggB Tryz.prog 43 = some true := by kernel_rfl
theorem sz43 : sizeB Tryz.prog 43 = some 4 := by kernel_rfl
theorem sz3 : sizeB Tryz.prog 3 = some 1 := by kernel_rfl
theorem sz9 : sizeB Tryz.prog 9 = some 1 := by kernel_rfl
theorem fa43_0 (r : Ref) (off : Nat) : fieldAddrEv Tryz.prog 43 (.ptr r off) 0 = some (.ptr r (off + 0)) := by kernel_rfl
theorem fa43_1 (r : Ref) (off : Nat) : fieldAddrEv Tryz.prog 43 (.ptr r off) 1 = some (.ptr r (off + 1)) := by kernel_rfl
theorem fa43_2 (r : Ref) (off : Nat) : fieldAddrEv Tryz.prog 43 (.ptr r off) 2 = some (.ptr r (off + 2)) := by kernel_rfl
theorem fa43_3 (r : Ref) (off : Nat) : fieldAddrEv Tryz.prog 43 (.ptr r off) 3 = some (.ptr r (off + 3)) := by kernel_rfl
theorem row_cells (t : Tk) : (AV.agg t.row).cellsO = some t.row := rfl
theorem drop0 (t : Tk) : (t.row.drop 0).head? = some (.v (.int .i64 t.kind)) := rfl
theorem drop1 (t : Tk) : (t.row.drop 1).head? = some (.v (.string (bs t.text))) := rfl
theorem drop2 (t : Tk) : (t.row.drop 2).head? = some (.v (.int .i64 t.n)) := rfl
theorem res36 : Tryz.f44.results.toList = [.tmp 2] := by kernel_rfl
theorem res39 : Tryz.f18.results.toList = [.tmp 2] := by kernel_rfl
theorem refValid_ev (t : Tk) (h : Heap) : W.call 18 [.agg t.row] h = some (.ret (.v (.bool (validB t))), h.push t.row) := by
 have u9 := Tryz.underlying9; have a3 := ag3; have a9 := ag9
 refine call_of_run rfl Tryz.func18 rfl ?_
 repeat' (first | (simp (config := { maxSteps := 4000000 }) (disch := first | assumption | omega | (simp only [lenL] <;> omega)) only [goS, append_gt, append_gt_yes, plainEv, resultsEv, resultListEv, reduceIte, Nat.reduceEqDiff, goT, beq_self_eq_true, res39, row_cells, box_push, fa43_0, fa43_1, fa43_2, load_push, drop0, drop1, drop2, Nat.zero_add, refName_ev, sign_ev, *]; done) | simp (config := { maxSteps := 4000000 }) (disch := first | assumption | omega | (simp only [lenL]; omega)) only [goS, append_gt, append_gt_yes, plainEv, resultsEv, resultListEv, reduceIte, Nat.reduceEqDiff, goT, beq_self_eq_true, res39, row_cells, box_push, fa43_0, fa43_1, fa43_2, load_push, drop0, drop1, drop2, Nat.zero_add, refName_ev, sign_ev, *] | ((first | refine G_d ?_ ?_ | refine G_n ?_ ?_ | refine B_d ?_ ?_ | refine B_n ?_ ?_) <;> (intro _; try (exfalso; omega))) | refine run_draw (by kernel_rfl) ?_ | ((first | refine G_m ?_ ?_ | refine B_m ?_ ?_ | refine G_b ?_ ?_ | refine B_b ?_ ?_) <;> intro _))
 all_goals exact answer (by simp_all [validB] <;> (intros; omega))

theorem sign_cls (b : UInt8) (h : isSign b = true) : letter b = false ∧ digit b = false ∧ b.toNat ≠ 95 ∧ white b = false := by
 have hm : b ∈ signs := by simpa [isSign] using h
 have : ∀ c ∈ signs, letter c = false ∧ digit c = false ∧ c.toNat ≠ 95 ∧ white c = false := by decide
 exact this b hm
theorem cls_sign (b : UInt8) : (cls b = 4) = (isSign b = true) := by
 have hs := sign_cls b
 apply cls_of b (P := fun c => (c = 4) = (isSign b = true)) <;> intros <;> simp_all
 all_goals (intro hq; have := hs hq; simp_all)
theorem valid_ev (t : Tk) (h : Heap) : W.call 44 [.agg t.row] h = some (.ret (.v (.bool (validB t))), h.push t.row) := by
 have u9 := Tryz.underlying9; have a3 := ag3; have a9 := ag9
 refine call_of_run rfl Tryz.func44 rfl ?_
 repeat' (first | (simp (config := { maxSteps := 4000000 }) (disch := first | assumption | omega | (simp only [lenL] <;> omega)) only [goS, append_gt, append_gt_yes, plainEv, resultsEv, resultListEv, reduceIte, Nat.reduceEqDiff, goT, beq_self_eq_true, res36, row_cells, box_push, fa43_0, fa43_1, fa43_2, load_push, drop0, drop1, drop2, Nat.zero_add, name_ev, class_ev, cls_sign, *]; done) | simp (config := { maxSteps := 4000000 }) (disch := first | assumption | omega | (simp only [lenL]; omega)) only [goS, append_gt, append_gt_yes, plainEv, resultsEv, resultListEv, reduceIte, Nat.reduceEqDiff, goT, beq_self_eq_true, res36, row_cells, box_push, fa43_0, fa43_1, fa43_2, load_push, drop0, drop1, drop2, Nat.zero_add, name_ev, class_ev, cls_sign, *] | ((first | refine G_d ?_ ?_ | refine G_n ?_ ?_ | refine B_d ?_ ?_ | refine B_n ?_ ?_) <;> (intro _; try (exfalso; omega))) | refine run_draw (by kernel_rfl) ?_ | ((first | refine G_m ?_ ?_ | refine B_m ?_ ?_ | refine G_b ?_ ?_ | refine B_b ?_ ?_) <;> intro _))
 all_goals exact answer (by simp_all [validB] <;> (intros; omega))
end Go.Proofs.YtmdakolcndpjeaaGreatDoor
end

section
namespace Go.Proofs.YtmdakolcndpjeaaGreatDoor
open Go.AE Go.Lex
theorem toks_len (l : List Tk) : (toks l).length = l.length := by simp [toks]
theorem toks_get (l : List Tk) (i : Nat) : (toks l)[i]? = (l[i]?).map Tk.row := by simp [toks]
end Go.Proofs.YtmdakolcndpjeaaGreatDoor
end

section
namespace Go.Proofs.YtmdakolcndpjeaaGreatDoor
open Go.AE Go.Lex
end Go.Proofs.YtmdakolcndpjeaaGreatDoor
end

section
namespace Go.Proofs.YtmdakolcndpjeaaGreatDoor
open Go.AE Go.Lex
end Go.Proofs.YtmdakolcndpjeaaGreatDoor
end

section
namespace Go.Proofs.YtmdakolcndpjeaaGreatDoor
open Go.AE Go.Lex
def Tk.zero : Tk := ⟨0, [], 0, 0⟩
theorem zero43 : (zeroA Tryz.prog 43).bind AV.cellsO = some Tk.zero.row := by kernel_rfl
theorem row_len (t : Tk) : t.row.length = 4 := rfl
theorem row_drop (t : Tk) : t.row.drop 0 = t.row := rfl
theorem row_take (t : Tk) : t.row.take 4 = t.row := rfl
theorem answerX {b c : Bool} {h : Heap} {Post : Heap → Prop} (hb : b = c) (hp : Post h) : ∃ h', (some (Res.ret (AV.v (.bool b)), h) : Option (Res × Heap)) = some (.ret (.v (.bool c)), h') ∧ Post h' := ⟨h, by rw [hb], hp⟩
end Go.Proofs.YtmdakolcndpjeaaGreatDoor
end

section
namespace Go.Proofs.YtmdakolcndpjeaaGreatDoor
open Go.AE Go.Lex
def pre (m : Nat) : List UInt8 := if m < 10 then [] else Lib.decDigits (m / 10)
end Go.Proofs.YtmdakolcndpjeaaGreatDoor
end

section
namespace Go.Proofs.YtmdakolcndpjeaaGreatDoor
open Go.AE Go.Lex
theorem joinS_nil : joinS [] = [] := rfl
theorem dec_len2 : ∀ (k n : Nat), n < 10 ^ (k + 1) → (Lib.decDigits n).length ≤ k + 1 := by
 intro k
 induction k with
 | zero => intro n h; rw [Lib.decDigits, dif_pos (by omega)]; simp
 | succ k ih =>
  intro n h
  rw [Lib.decDigits]
  by_cases h10 : n < 10
  ·rw [dif_pos h10]; simp
  ·rw [dif_neg h10, List.length_append]
   have := ih (n / 10) (by rw [Nat.pow_succ] at h; omega)
   simp
   omega
theorem textOf_len {t : Tk} (hv : validB t = true) : (textOf t).length ≤ 32 := by
 unfold validB at hv
 unfold textOf
 split at hv
 ·rename_i h1
  rw [if_neg (by omega)]
  simp [nameB] at hv
  omega
 ·split at hv
  ·rename_i h2
   rw [if_pos h2]
   simp at hv
   have := dec_len2 12 t.n.toNat (by omega)
   omega
  ·rename_i h2
   rw [if_neg h2]
   split at hv
   ·simp at hv; omega
   ·cases hv
def textB (l : List Tk) : AV := if l.all validB then .tuple [.v (.string (bs (joinS l))), .v (.int .i64 0)] else .tuple [.v (.string (bs [])), .v (.int .i64 30)]
theorem joinS_len {l : List Tk} (hv : ∀ t ∈ l, validB t = true) : (joinS l).length ≤ l.length * 33 := by
 have tail : ∀ r : List Tk, (∀ t ∈ r, validB t = true) → (Lib.joinTail [32] (r.map textOf)).length ≤ r.length * 33 := by
  intro r
  induction r with
  | nil => intro _; simp [Lib.joinTail]
  | cons x r ih =>
   intro hr
   have h1 := textOf_len (hr x List.mem_cons_self)
   have h2 := ih fun u hu => hr u (List.mem_cons_of_mem _ hu)
   simp only [Lib.joinTail, List.map_cons, List.flatten_cons, List.length_append, List.length_cons, List.length_nil] at h2 ⊢
   omega
 cases l with
 | nil => simp [joinS_nil]
 | cons x r =>
  have h1 := textOf_len (hv x List.mem_cons_self)
  have h2 := tail r fun u hu => hv u (List.mem_cons_of_mem _ hu)
  simp only [joinS, List.map_cons, Lib.join_cons, List.length_append, List.length_cons]
  omega
theorem row_head (t : Tk) : t.row.head? = some (.v (.int .i64 t.kind)) := rfl
theorem answerA {x y : AV} {h : Heap} {Post : Heap → Prop} (hb : x = y) (hp : Post h) : ∃ h', (some (Res.ret x, h) : Option (Res × Heap)) = some (.ret y, h') ∧ Post h' := ⟨h, by rw [hb], hp⟩
end Go.Proofs.YtmdakolcndpjeaaGreatDoor
end

section
namespace Go.Proofs.YtmdakolcndpjeaaGreatDoor
open Go.AE Go.Lex
theorem ext_put {h h' : Heap} (x : Ext h h') {b : Nat} (hb : h.boxes.length ≤ b) (cs : List AV) : Ext h (h'.put b cs) := by
 refine ⟨fun c ds hc => ?_, x.loop, x.tn, x.dead, x.ok⟩
 have hlt : c < h.boxes.length := (List.getElem?_eq_some_iff.1 hc).1
 rw [put_other (by omega)]
 exact x.box c ds hc
def word (t : Tk) : AV := .v (.string (bs (textOf t)))
def wordsAt (l : List Tk) (i : Nat) : List AV := (l.take i).map word ++ List.replicate (l.length - i) (.v (.string (bs [])))
theorem wordsAt_zero (l : List Tk) : wordsAt l 0 = List.replicate l.length (.v (.string (bs []))) := by simp [wordsAt]
theorem wordsAt_len {l : List Tk} {i : Nat} (hi : i ≤ l.length) : (wordsAt l i).length = l.length := by simp [wordsAt]; omega
theorem wordsAt_step {l : List Tk} {i : Nat} {t : Tk} (ht : l[i]? = some t) : splice (wordsAt l i) i [word t] = wordsAt l (i + 1) := by
 obtain ⟨hi, rfl⟩ := List.getElem?_eq_some_iff.1 ht
 have hl : ((l.take i).map word).length = i := by simp; omega
 have h1 : (wordsAt l i).take i = (l.take i).map word := by
  rw [wordsAt, List.take_append_of_le_length (by omega), List.take_of_length_le (by omega)]
 have h2 : (wordsAt l i).drop (i + 1) = List.replicate (l.length - (i + 1)) (.v (.string (bs []))) := by
  rw [wordsAt, List.drop_append, List.drop_eq_nil_of_le (by omega), hl, List.drop_replicate, List.nil_append]
  congr 1
  omega
 simp only [splice, List.length_singleton]
 rw [h1, h2, wordsAt, List.take_succ_eq_append_getElem hi, List.map_append]
 rfl
theorem rows_words (l : List Tk) (h : Heap) (b : Nat) (hb : h.boxes[b]? = some (wordsAt l l.length)) : rowsOf h 1 (.arr b 0 l.length l.length) = some (l.map fun t => [word t]) := by
 have hw : wordsAt l l.length = l.map word := by simp [wordsAt]
 unfold rowsOf
 simp only [hb, hw]
 rw [if_pos (by simp)]
 congr 1
 apply List.ext_getElem
 ·simp
 ·intro i h1 h2
  simp at h1
  simp [List.take_one, h1]
theorem strs_words (l : List Tk) : strsOf (l.map fun t => [word t]) = some (l.map textOf) := by
 induction l with
 | nil => rfl
 | cons t l ih => simp only [List.map_cons, word, strsOf]; rw [show (l.map fun t => [AV.v (.string (bs (textOf t)))]) = l.map fun t => [word t] from rfl, ih]; rfl
theorem join_ev (l : List Tk) (h : Heap) (b : Nat) (hb : h.boxes[b]? = some (wordsAt l l.length)) (hl : l.length ≤ 140737488355328) (hj : (joinS l).length ≤ 140737488355328) :
 W.call 46 [.arr b 0 l.length l.length, .v (.string (bs [32]))] h = some (.ret (.v (.string (bs (joinS l)))), h) := by
 rw [whole_call]
 show (pJoin _ _).map _ = _
 unfold pJoin
 simp only [rows_words l h b hb, strs_words]
 rw [if_pos ⟨by simpa using hl, hj⟩]
 rfl
theorem itoa_ev (n : Nat) (hn : n ≤ 9223372036854775807) (h : Heap) : W.call 45 [.v (.int .i64 n)] h = some (.ret (.v (.string (bs (Lib.decDigits n)))), h) := by
 rw [whole_call]
 show (pItoa _ _).map _ = _
 unfold pItoa
 simp only
 rw [if_pos ⟨by omega, by omega⟩, itoaK_eq _ (by omega) (by omega), Lib.itoa, if_neg (by omega)]
 rfl
theorem res16 : Tryz.f17.results.toList = [.tmp 2, .tmp 3] := by kernel_rfl
theorem make22 (n : Nat) (hn : n ≤ 1048576) (h : Heap) : makeSliceEv Tryz.prog h 22 (.v (.int .i64 n)) (.v (.int .i64 n)) = some (.arr h.boxes.length 0 n n, h.push (List.replicate n (.v (.string (bs []))))) := by
 have hu : Tryz.prog.underlying 22 = some (.slice 9) := by kernel_rfl
 have hz : (zeroA Tryz.prog 9).bind AV.cellsO = some [.v (.string (bs []))] := by kernel_rfl
 have hi : (Tryz.prog.info? 9).map (fun i => (i.bytes, i.size)) = some (16, 1) := by kernel_rfl
 cases hq : Tryz.prog.info? 9 with
 | none => rw [hq] at hi; cases hi
 | some i =>
  rw [hq] at hi
  simp only [Option.map_some, Option.some.injEq, Prod.mk.injEq] at hi
  unfold makeSliceEv
  simp only [hu, hq, hz]
  rw [if_pos ⟨by omega, by omega, by omega, by rw [hi.1]; omega, by rw [hi.2]; omega, by rw [hi.2]; rfl⟩]
  have : (List.replicate n [AV.v (.string (bs []))]).flatten = List.replicate n (.v (.string (bs []))) := by
   rw [List.flatten_replicate_singleton]
  simp only [Int.toNat_natCast, this]
  rfl
end Go.Proofs.YtmdakolcndpjeaaGreatDoor
end

section
namespace Go.Proofs.YtmdakolcndpjeaaGreatDoor
open Go.AE Go.Lex
theorem text_ev (k : Tok) (sz : Nat) (l : List Tk) (hz : ∀ i : Nat, i < l.length → sz = 4) (hl : l.length ≤ 1048576) (h : Heap) : Says W 17 [.list k sz (toks l)] h (.ret (textB l)) := by
 have u40 : Tryz.prog.underlying 22 = some (.slice 9) := by kernel_rfl
 have u9 := Tryz.underlying9; have u39 := Tryz.underlying39; have a3 := ag3; have a9 := ag9; have s35 := sz43; have a35 := ag43; have s9 := sz9
 refine call_ex rfl Tryz.func17 rfl ?_
 repeat' (first | (simp (config := { maxSteps := 4000000 }) (disch := first | assumption | omega | (simp only [lenL] <;> omega)) only [goS, append_gt, append_gt_yes, plainEv, resultsEv, resultListEv, reduceIte, Nat.reduceEqDiff, goT, beq_self_eq_true, res16, toks_len, make22, *]; done) | simp (config := { maxSteps := 4000000 }) (disch := first | assumption | omega | (simp only [lenL]; omega)) only [goS, append_gt, append_gt_yes, plainEv, resultsEv, resultListEv, reduceIte, Nat.reduceEqDiff, goT, beq_self_eq_true, res16, toks_len, make22, *] | ((first | refine G_d ?_ ?_ | refine G_n ?_ ?_ | refine B_d ?_ ?_ | refine B_n ?_ ?_) <;> (intro _; try (exfalso; omega))) | refine run_draw (by kernel_rfl) ?_ | ((first | refine G_m ?_ ?_ | refine B_m ?_ ?_ | refine G_b ?_ ?_ | refine B_b ?_ ?_) <;> intro _))
 refine run_loop (fun m e h' => ∃ i : Nat, i ≤ l.length ∧ m = l.length - i ∧ e.get 4 = .arr h.boxes.length 0 l.length l.length ∧ e.get 10 = .list k sz (toks l) ∧ e.get 11 = .v (.int .i64 l.length) ∧ e.get 12 = .v (.int .i64 i) ∧ e.defers = [] ∧ Ext h h' ∧
  h'.boxes[h.boxes.length]? = some (wordsAt l i) ∧ ∀ t ∈ l.take i, validB t = true) ?_ l.length _ _ ?_
 ·rintro m e h' ⟨i, hi, rfl, g4, g10, g11, g12, hd, hx', hB, hno⟩
  have hk := Keep.mk hno
  have hk2 := Keep.mk hx'
  have hk3 := Keep.mk hB
  have hwl := wordsAt_len hi
  by_cases hlt : i < l.length
  ·obtain rfl := hz i hlt
   obtain ⟨t, ht⟩ : ∃ t, l[i]? = some t := ⟨_, List.getElem?_eq_getElem hlt⟩
   have hlt3 : (i : Int) < ((toks l).length : Int) := by rw [toks_len]; omega
   have hB2 : ((h'.push t.row).push t.row).boxes[h.boxes.length]? = some (wordsAt l i) := push_old (push_old hB)
   have r1 := row_cells t
   have r3 := row_len t
   have r5 := row_len Tk.zero
   have hk4 : Keep (validB t = true → ∀ u ∈ l.take (i + 1), validB u = true) := .mk (by
    intro hv u hu
    obtain ⟨hi2, rfl⟩ := List.getElem?_eq_some_iff.1 ht
    rw [List.take_succ_eq_append_getElem hi2] at hu
    rcases List.mem_append.1 hu with h1 | h1
    ·exact hk.out u h1
    ·simp at h1; subst h1; exact hv)
   clear hno hx' hB
   by_cases hv : validB t = true
   ·by_cases h2 : t.kind = 2
    ·have hn : ∃ n : Nat, t.n = n ∧ n ≤ 9223372036854775807 := by
      refine ⟨t.n.toNat, ?_, ?_⟩ <;> (simp [validB, h2] at hv; omega)
     obtain ⟨n, hn1, hn2⟩ := hn
     have htx : textOf t = Lib.decDigits n := by rw [textOf, if_pos h2, hn1]; rfl
     have hw : (AV.v (.string (bs (Lib.decDigits n)))).cellsO = some [word t] := by rw [word, htx]; rfl
     have hst := store_box (P := Tryz.prog) (off := i) hw s9 hB2 rfl (by rw [hwl]; omega)
     rw [wordsAt_step ht] at hst
     clear hw
     clear htx
     repeat' (first | (simp (config := { maxSteps := 4000000 }) (disch := first | assumption | omega | (simp only [lenL] <;> omega)) only [goS, append_gt, append_gt_yes, plainEv, resultsEv, resultListEv, reduceIte, Nat.reduceEqDiff, goT, beq_self_eq_true, res16, toks_len, toks_get, index_list, index_arr, load_row_agg, zero43, box_push, store_push, load_push_agg, load_push2_agg, load_push2, fa43_0, fa43_1, fa43_2, row_drop, row_take, row_len, row_head, Nat.add_zero, Nat.mul_one, drop0, drop1, drop2, Nat.zero_add, Nat.le_refl, valid_ev, itoa_ev, *]; done) | simp (config := { maxSteps := 4000000 }) (disch := first | assumption | omega | (simp only [lenL]; omega)) only [goS, append_gt, append_gt_yes, plainEv, resultsEv, resultListEv, reduceIte, Nat.reduceEqDiff, goT, beq_self_eq_true, res16, toks_len, toks_get, index_list, index_arr, load_row_agg, zero43, box_push, store_push, load_push_agg, load_push2_agg, load_push2, fa43_0, fa43_1, fa43_2, row_drop, row_take, row_len, row_head, Nat.add_zero, Nat.mul_one, drop0, drop1, drop2, Nat.zero_add, Nat.le_refl, valid_ev, itoa_ev, *] | ((first | refine G_d ?_ ?_ | refine G_n ?_ ?_ | refine B_d ?_ ?_ | refine B_n ?_ ?_) <;> (intro _; try (exfalso; omega))) | refine run_draw (by kernel_rfl) ?_ | ((first | refine G_m ?_ ?_ | refine B_m ?_ ?_ | refine G_b ?_ ?_ | refine B_b ?_ ?_) <;> intro _))
     exact ⟨l.length - (i + 1), by omega, i + 1, by omega, rfl, trivial, trivial, trivial, by simp, trivial, ext_put ((hk2.out.trans (.push _ _)).trans (.push _ _)) (Nat.le_refl _) _,
      put_this (List.getElem?_eq_some_iff.1 hB2).1, hk4.out hv⟩
    ·have htx : textOf t = t.text := by rw [textOf, if_neg h2]
     have hw : (AV.v (.string (bs t.text))).cellsO = some [word t] := by rw [word, htx]; rfl
     have hst := store_box (P := Tryz.prog) (off := i) hw s9 hB2 rfl (by rw [hwl]; omega)
     rw [wordsAt_step ht] at hst
     clear hw
     clear htx
     repeat' (first | (simp (config := { maxSteps := 4000000 }) (disch := first | assumption | omega | (simp only [lenL] <;> omega)) only [goS, append_gt, append_gt_yes, plainEv, resultsEv, resultListEv, reduceIte, Nat.reduceEqDiff, goT, beq_self_eq_true, res16, toks_len, toks_get, index_list, index_arr, load_row_agg, zero43, box_push, store_push, load_push_agg, load_push2_agg, load_push2, fa43_0, fa43_1, fa43_2, row_drop, row_take, row_len, row_head, Nat.add_zero, Nat.mul_one, drop0, drop1, drop2, Nat.zero_add, Nat.le_refl, valid_ev, itoa_ev, *]; done) | simp (config := { maxSteps := 4000000 }) (disch := first | assumption | omega | (simp only [lenL]; omega)) only [goS, append_gt, append_gt_yes, plainEv, resultsEv, resultListEv, reduceIte, Nat.reduceEqDiff, goT, beq_self_eq_true, res16, toks_len, toks_get, index_list, index_arr, load_row_agg, zero43, box_push, store_push, load_push_agg, load_push2_agg, load_push2, fa43_0, fa43_1, fa43_2, row_drop, row_take, row_len, row_head, Nat.add_zero, Nat.mul_one, drop0, drop1, drop2, Nat.zero_add, Nat.le_refl, valid_ev, itoa_ev, *] | ((first | refine G_d ?_ ?_ | refine G_n ?_ ?_ | refine B_d ?_ ?_ | refine B_n ?_ ?_) <;> (intro _; try (exfalso; omega))) | refine run_draw (by kernel_rfl) ?_ | ((first | refine G_m ?_ ?_ | refine B_m ?_ ?_ | refine G_b ?_ ?_ | refine B_b ?_ ?_) <;> intro _))
     exact ⟨l.length - (i + 1), by omega, i + 1, by omega, rfl, trivial, trivial, trivial, by simp, trivial, ext_put ((hk2.out.trans (.push _ _)).trans (.push _ _)) (Nat.le_refl _) _,
      put_this (List.getElem?_eq_some_iff.1 hB2).1, hk4.out hv⟩
   ·have hv : validB t = false := by simpa using hv
    repeat' (first | (simp (config := { maxSteps := 4000000 }) (disch := first | assumption | omega | (simp only [lenL] <;> omega)) only [goS, append_gt, append_gt_yes, plainEv, resultsEv, resultListEv, reduceIte, Nat.reduceEqDiff, goT, beq_self_eq_true, res16, toks_len, toks_get, index_list, index_arr, load_row_agg, zero43, box_push, store_push, load_push_agg, load_push2_agg, load_push2, fa43_0, fa43_1, fa43_2, row_drop, row_take, row_len, row_head, Nat.add_zero, Nat.mul_one, drop0, drop1, drop2, Nat.zero_add, Nat.le_refl, valid_ev, itoa_ev, *]; done) | simp (config := { maxSteps := 4000000 }) (disch := first | assumption | omega | (simp only [lenL]; omega)) only [goS, append_gt, append_gt_yes, plainEv, resultsEv, resultListEv, reduceIte, Nat.reduceEqDiff, goT, beq_self_eq_true, res16, toks_len, toks_get, index_list, index_arr, load_row_agg, zero43, box_push, store_push, load_push_agg, load_push2_agg, load_push2, fa43_0, fa43_1, fa43_2, row_drop, row_take, row_len, row_head, Nat.add_zero, Nat.mul_one, drop0, drop1, drop2, Nat.zero_add, Nat.le_refl, valid_ev, itoa_ev, *] | ((first | refine G_d ?_ ?_ | refine G_n ?_ ?_ | refine B_d ?_ ?_ | refine B_n ?_ ?_) <;> (intro _; try (exfalso; omega))) | refine run_draw (by kernel_rfl) ?_ | ((first | refine G_m ?_ ?_ | refine B_m ?_ ?_ | refine G_b ?_ ?_ | refine B_b ?_ ?_) <;> intro _))
    refine answerA ?_ ((hk2.out.trans (.push h' t.row)).trans (.push _ t.row))
    have : l.all validB = false := by
     rw [Bool.eq_false_iff]
     intro ha
     have := List.all_eq_true.1 ha t (List.mem_of_getElem? ht)
     rw [hv] at this; cases this
    rw [textB, this]
    rfl
  ·have hie : i = l.length := by omega
   subst hie
   have hall : ∀ u ∈ l, validB u = true := fun u hu => hno u (by rw [List.take_length]; exact hu)
   have hk6 : l.all validB = true := List.all_eq_true.2 hall
   have hj := joinS_len hall
   have hje := join_ev l h' h.boxes.length hB (by omega) (by omega)
   clear hno hi hlt hx' hk hB hall hj hwl hk3
   repeat' (first | (simp (config := { maxSteps := 4000000 }) (disch := first | assumption | omega | (simp only [lenL] <;> omega)) only [goS, append_gt, append_gt_yes, plainEv, resultsEv, resultListEv, reduceIte, Nat.reduceEqDiff, goT, beq_self_eq_true, res16, toks_len, *]; done) | simp (config := { maxSteps := 4000000 }) (disch := first | assumption | omega | (simp only [lenL]; omega)) only [goS, append_gt, append_gt_yes, plainEv, resultsEv, resultListEv, reduceIte, Nat.reduceEqDiff, goT, beq_self_eq_true, res16, toks_len, *] | ((first | refine G_d ?_ ?_ | refine G_n ?_ ?_ | refine B_d ?_ ?_ | refine B_n ?_ ?_) <;> (intro _; try (exfalso; omega))) | refine run_draw (by kernel_rfl) ?_ | ((first | refine G_m ?_ ?_ | refine B_m ?_ ?_ | refine G_b ?_ ?_ | refine B_b ?_ ?_) <;> intro _))
   refine answerA ?_ hk2.out
   rw [textB, hk6]; rfl
 ·refine ⟨0, by omega, rfl, ?_, ?_, ?_, ?_, ?_, .push _ _, ?_, fun t ht => by simp at ht⟩
  iterate 5
   ·simp only [goS, append_gt, append_gt_yes, plainEv, resultsEv, resultListEv, reduceIte, Nat.reduceEqDiff, goT, beq_self_eq_true] <;> rfl
  ·rw [wordsAt_zero]; exact push_last _ _
end Go.Proofs.YtmdakolcndpjeaaGreatDoor
end

section
namespace Go.Lex
open Go.AE

theorem sign_not (b : UInt8) (h : isSign b = true) : letter b = false ∧ digit b = false ∧ b.toNat ≠ 95 ∧ white b = false := by
 have hm : b ∈ signs := by simpa [isSign] using h
 have : ∀ c ∈ signs, letter c = false ∧ digit c = false ∧ c.toNat ≠ 95 ∧ white c = false := by decide
 exact this b hm
theorem letter_not (b : UInt8) (h : letter b = true) : digit b = false ∧ white b = false ∧ b ≠ 47 ∧ partB b = true := by
 refine ⟨?_, ?_, ?_, by simp [partB, h]⟩
 ·simp only [letter, digit, Bool.or_eq_true, Bool.and_eq_true, decide_eq_true_eq, Bool.and_eq_false_iff, decide_eq_false_iff_not] at *; omega
 ·simp only [letter, white, Bool.or_eq_true, Bool.and_eq_true, decide_eq_true_eq, Bool.or_eq_false_iff, decide_eq_false_iff_not] at *; omega
 ·rintro rfl; revert h; decide
theorem digit_not (b : UInt8) (h : digit b = true) : letter b = false ∧ white b = false ∧ b ≠ 47 := by
 refine ⟨?_, ?_, ?_⟩
 ·simp only [letter, digit, Bool.or_eq_false_iff, Bool.and_eq_true, decide_eq_true_eq, Bool.and_eq_false_iff, decide_eq_false_iff_not] at *; omega
 ·simp only [digit, white, Bool.and_eq_true, decide_eq_true_eq, Bool.or_eq_false_iff, decide_eq_false_iff_not] at *; omega
 ·rintro rfl; revert h; decide
theorem white_not (b : UInt8) (h : white b = true) : partB b = false ∧ digit b = false ∧ b ≠ 47 := by
 refine ⟨?_, ?_, ?_⟩
 ·simp only [partB, letter, digit, white, Bool.or_eq_false_iff, Bool.or_eq_true, Bool.and_eq_true, decide_eq_true_eq, Bool.and_eq_false_iff, decide_eq_false_iff_not] at *; omega
 ·simp only [digit, white, Bool.or_eq_true, Bool.and_eq_false_iff, decide_eq_true_eq, decide_eq_false_iff_not] at *; omega
 ·rintro rfl; revert h; decide

section
variable {p : UInt8 → Bool}
theorem tw_app_stop {s x : List UInt8} {b : UInt8} (hb : p b = false) : (s ++ b :: x).takeWhile p = s.takeWhile p := by
 induction s with
 | nil => simp [hb]
 | cons c s ih => simp only [List.cons_append, List.takeWhile_cons, ih]
theorem tw_all {s : List UInt8} (h : s.all p = true) : s.takeWhile p = s := by
 induction s with
 | nil => rfl
 | cons c s ih =>
  simp only [List.all_cons, Bool.and_eq_true] at h
  simp [List.takeWhile_cons, h.1, ih h.2]
theorem tw_len_le (s : List UInt8) : (s.takeWhile p).length ≤ s.length := by
 induction s with
 | nil => simp
 | cons c s ih => rw [List.takeWhile_cons]; split <;> simp; exact ih
theorem tw_allp (s : List UInt8) : (s.takeWhile p).all p = true := by
 induction s with
 | nil => rfl
 | cons c s ih =>
  rw [List.takeWhile_cons]
  split
  ·rename_i hc; simp [hc, ih]
  ·rfl
theorem tw_cons_len {c : UInt8} {s : List UInt8} (h : p c = true) : 1 ≤ ((c :: s).takeWhile p).length := by simp [List.takeWhile_cons, h]
end

theorem stepB_len {c : UInt8} {r : List UInt8} {n : Nat} {o : Option (Int × List UInt8 × Int)} (h : stepB c r = some (n, o)) : 1 ≤ n ∧ n ≤ r.length + 1 := by
 have hl : ∀ p : UInt8 → Bool, ((c :: r).takeWhile p).length ≤ r.length + 1 := fun p => tw_len_le (c :: r)
 unfold stepB at h
 split at h
 ·simp only [Option.some.injEq, Prod.mk.injEq] at h; omega
 split at h
 ·rename_i hc
  simp only [Option.some.injEq, Prod.mk.injEq] at h
  rw [← h.1]
  exact ⟨tw_cons_len (by rw [hc.1]; decide), hl _⟩
 split at h
 ·rename_i hc
  split at h
  ·simp only [Option.some.injEq, Prod.mk.injEq] at h
   rw [← h.1]
   exact ⟨tw_cons_len (letter_not _ hc).2.2.2, hl _⟩
  ·cases h
 split at h
 ·rename_i hc
  split at h
  ·simp only [Option.some.injEq, Prod.mk.injEq] at h
   rw [← h.1]
   exact ⟨tw_cons_len hc, hl _⟩
  ·cases h
 split at h
 ·simp only [Option.some.injEq, Prod.mk.injEq] at h; omega
 ·cases h

theorem stepB_valid {c : UInt8} {r : List UInt8} {n : Nat} {a : Int} {t : List UInt8} {v : Int} (h : stepB c r = some (n, some (a, t, v))) (k : Nat) : validB ⟨a, t, v, k⟩ = true := by
 unfold stepB at h
 split at h
 ·simp at h
 split at h
 ·simp at h
 split at h
 ·split at h
  ·rename_i hn
   simp only [Option.some.injEq, Prod.mk.injEq] at h
   obtain ⟨-, rfl, rfl, rfl⟩ := h
   simp [validB, hn]
  ·cases h
 split at h
 ·split at h
  ·rename_i hn
   simp only [Option.some.injEq, Prod.mk.injEq] at h
   obtain ⟨-, rfl, rfl, rfl⟩ := h
   simp [numOk] at hn
   simp [validB]
   omega
  ·cases h
 split at h
 ·rename_i hn
  simp only [Option.some.injEq, Prod.mk.injEq] at h
  obtain ⟨-, rfl, rfl, rfl⟩ := h
  simp [validB, hn]
 ·cases h

theorem lex_valid : ∀ (m : Nat) (s : List UInt8) (k : Nat) (l : List Tk), s.length ≤ m → lexR s k = .ok l → ∀ t ∈ l, validB t = true := by
 intro m
 induction m with
 | zero =>
  intro s k l hs h
  obtain rfl := List.length_eq_zero_iff.1 (Nat.le_zero.1 hs)
  rw [lexR_nil] at h
  injection h with h; subst h
  intro t ht; cases ht
 | succ m ih =>
  intro s k l hs h
  cases s with
  | nil => rw [lexR_nil] at h; injection h with h; subst h; intro t ht; cases ht
  | cons c r =>
   cases hst : stepB c r with
   | none => rw [lexR_none hst] at h; cases h
   | some q =>
    obtain ⟨n, o⟩ := q
    rw [lexR_some hst] at h
    cases hr : lexR (r.drop (n - 1)) (k + n) with
    | wrong i => rw [hr] at h; cases h
    | ok l' =>
     rw [hr] at h
     injection h with h
     have hv := ih (r.drop (n - 1)) (k + n) l' (by simp at hs ⊢; omega) hr
     subst h
     cases o with
     | none => exact hv
     | some q =>
      obtain ⟨a, t, v⟩ := q
      intro u hu
      rcases List.mem_cons.1 hu with rfl | hu
      ·exact stepB_valid hst k
      ·exact hv u hu

def Out.then (x : Out) (f : Unit → Out) : Out :=
 match x with
 | .wrong i => .wrong i
 | .ok l => match f () with
  | .wrong i => .wrong i
  | .ok l' => .ok (l ++ l')
theorem lex_white {b : UInt8} {r : List UInt8} {k : Nat} (hb : white b = true) : lexR (b :: r) k = lexR r (k + 1) := by
 have : stepB b r = some (1, none) := by unfold stepB; rw [if_pos hb]
 rw [lexR_some this]
 show (lexR r (k + 1)).add none k = lexR r (k + 1)
 cases lexR r (k + 1) <;> rfl
theorem num_app (a b : List UInt8) (n : Nat) : num (a ++ b) n = num b (num a n) := by
 induction a generalizing n with
 | nil => rfl
 | cons c a ih => exact ih _
theorem num_dec (n : Nat) : num (Lib.decDigits n) 0 = n := by
 induction n using Nat.strongRecOn with
 | _ n ih =>
  rw [Lib.decDigits]
  by_cases h : n < 10
  ·rw [dif_pos h]
   have : (UInt8.ofNat (48 + n)).toNat = 48 + n := by simp; omega
   simp only [num, this]
   omega
  ·rw [dif_neg h, num_app, ih _ (by omega)]
   have : (UInt8.ofNat (48 + n % 10)).toNat = 48 + n % 10 := by simp; omega
   simp only [num, this]
   omega
theorem dec_digits (n : Nat) : (Lib.decDigits n).all digit = true := by
 induction n using Nat.strongRecOn with
 | _ n ih =>
  have hd : ∀ m, m < 10 → digit (UInt8.ofNat (48 + m)) = true := by
   intro m hm
   have : (UInt8.ofNat (48 + m)).toNat = 48 + m := by simp; omega
   simp [digit, this]; omega
  rw [Lib.decDigits]
  by_cases h : n < 10
  ·rw [dif_pos h]
   simp only [List.all_cons, List.all_nil, hd n h, Bool.and_true]
  ·rw [dif_neg h, List.all_append, ih _ (by omega)]
   simp only [List.all_cons, List.all_nil, hd (n % 10) (by omega), Bool.and_true]
theorem dec_ne (n : Nat) : Lib.decDigits n ≠ [] := by
 rw [Lib.decDigits]
 split
 ·simp
 ·simp

theorem lex_token {t : Tk} (hv : validB t = true) {x : List UInt8} (hx : x = [] ∨ ∃ b y, x = b :: y ∧ white b = true) (k : Nat) :
 lexR (textOf t ++ x) k = (lexR x (k + (textOf t).length)).add (some (t.kind, t.text, t.n)) k := by
 have stop : ∀ (p : UInt8 → Bool) (w : List UInt8), (∀ b, white b = true → p b = false) → w.all p = true → (w ++ x).takeWhile p = w := by
  intro p w hp hw
  rcases hx with rfl | ⟨b, y, rfl, hb⟩
  ·rw [List.append_nil]; exact tw_all hw
  ·rw [tw_app_stop (hp b hb)]; exact tw_all hw
 unfold validB at hv
 split at hv
 ·rename_i h1
  simp only [nameB, Bool.and_eq_true, decide_eq_true_eq] at hv
  obtain ⟨⟨⟨⟨q1, q2⟩, q3⟩, q4⟩, q5⟩ := hv
  have htx : textOf t = t.text := by rw [textOf, if_neg (by omega)]
  rw [htx]
  obtain ⟨c, r, hcr⟩ : ∃ c r, t.text = c :: r := by
   cases ht : t.text with
   | nil => rw [ht] at q1; simp at q1
   | cons c r => exact ⟨c, r, rfl⟩
  have hl : letter c = true := by rw [hcr] at q3; exact q3
  have hln := letter_not c hl
  have htw := stop partB t.text (fun b hb => (white_not b hb).1) q4
  have hst : stepB c (r ++ x) = some (t.text.length, some (t.kind, t.text, t.n)) := by
   unfold stepB
   rw [if_neg (by rw [hln.2.1]; decide), if_neg (fun hq => hln.2.2.1 hq.1), if_pos hl]
   rw [hcr, List.cons_append] at htw
   rw [htw, ← hcr, if_pos (by simp only [nameB, q1, q2, q3, q4, decide_true, Bool.and_self]), h1, q5]
  have hlen : t.text.length = r.length + 1 := by rw [hcr]; rfl
  rw [show t.text ++ x = c :: (r ++ x) by rw [hcr]; rfl, lexR_some hst, hlen, Nat.add_sub_cancel, List.drop_left]
 ·split at hv
  ·rename_i h0 h2
   simp only [Bool.and_eq_true, decide_eq_true_eq] at hv
   obtain ⟨⟨q1, q2⟩, q3⟩ := hv
   have htx : textOf t = Lib.decDigits t.n.toNat := by rw [textOf, if_pos h2]
   rw [htx]
   obtain ⟨c, r, hcr⟩ : ∃ c r, Lib.decDigits t.n.toNat = c :: r := by
    cases ht : Lib.decDigits t.n.toNat with
    | nil => exact absurd ht (dec_ne _)
    | cons c r => exact ⟨c, r, rfl⟩
   have hall := dec_digits t.n.toNat
   have hd : digit c = true := by rw [hcr] at hall; simp at hall; exact hall.1
   have hdn := digit_not c hd
   have htw := stop digit _ (fun b hb => (white_not b hb).2.1) hall
   have hst : stepB c (r ++ x) = some ((Lib.decDigits t.n.toNat).length, some (t.kind, t.text, t.n)) := by
    unfold stepB
    rw [if_neg (by rw [hdn.2.1]; decide), if_neg (fun hq => hdn.2.2 hq.1), if_neg (by rw [hdn.1]; decide), if_pos hd]
    rw [hcr, List.cons_append] at htw
    rw [htw, ← hcr, num_dec, if_pos (by simp [numOk, num_dec]; omega), h2, q1]
    have : (t.n.toNat : Int) = t.n := by omega
    rw [this]
   have hlen : (Lib.decDigits t.n.toNat).length = r.length + 1 := by rw [hcr]; rfl
   rw [show Lib.decDigits t.n.toNat ++ x = c :: (r ++ x) by rw [hcr]; rfl, lexR_some hst, hlen, Nat.add_sub_cancel, List.drop_left]
  ·split at hv
   ·rename_i h0 h2 h3
    simp only [Bool.and_eq_true, decide_eq_true_eq] at hv
    obtain ⟨⟨q1, q2⟩, q3⟩ := hv
    have htx : textOf t = t.text := by rw [textOf, if_neg h2]
    rw [htx]
    obtain ⟨c, hcr⟩ := List.length_eq_one_iff.1 q1
    have hs : isSign c = true := by rw [hcr] at q2; exact q2
    have hsn := sign_not c hs
    have hst : stepB c x = some (1, some (t.kind, t.text, t.n)) := by
     unfold stepB
     have hno : ¬ (c = 47 ∧ x.head? = some 47) := by
      rintro ⟨-, hq⟩
      rcases hx with rfl | ⟨b, y, rfl, hb⟩
      ·cases hq
      ·simp only [List.head?_cons, Option.some.injEq] at hq
       exact (white_not b hb).2.2 hq
     rw [if_neg (by rw [hsn.2.2.2]; decide), if_neg hno, if_neg (by rw [hsn.1]; decide), if_neg (by rw [hsn.2.1]; decide), if_pos hs, h3, q3, hcr]
    rw [show t.text ++ x = c :: x by rw [hcr]; rfl, lexR_some hst, q1]
    rfl
   ·cases hv

theorem lex_ok_of {x : Out} {m : List Tk} (h : x = .ok m) (o : Int × List UInt8 × Int) (k : Nat) : x.add (some o) k = .ok (⟨o.1, o.2.1, o.2.2, k⟩ :: m) := by subst h; rfl
theorem sameB_cons (x y : Tk) (a b : List Tk) : sameB (x :: a) (y :: b) = (sameT x y && sameB a b) := rfl
theorem sameT_core (t : Tk) (k : Int) : sameT t ⟨t.kind, t.text, t.n, k⟩ = true := by simp [sameT]

end Go.Lex
end
