/-
 The engine, part 20: the arguments of a statement as values of the evaluator.
-/
import Derived.Test.YtmdakolcndpjeaaGreatDoorE3
import Derived.ChangeArms
import Derived.OpenShut
import Derived.Carry
import Derived.ProofKit
import Derived.ChangeSame
import Derived.Test.YtmdakolcndpjeaaGreatDoorE2
set_option linter.unusedSimpArgs false
set_option linter.unusedVariables false
set_option linter.constructorNameAsVariable false
section
namespace Go.AE
open Go.RowKit (Below)

def Know.init (W : World) : Know := { base := W.heap.size, ic := fun g j => W.cell? ⟨g, j, none⟩, β := [], γ := [], tn := 0, tk := fun _ => (0, 0, 0), md := [], lb := fun _ => none }
def Heap.init : Heap := ⟨[], [], 0, []⟩

theorem sim_init {G : Nat → Option (List AV)} {ok : FuncId → Nat → Code → Bool} (W : World) (hG : ∀ g cs, G g = some cs → ∃ cells, VsRel (Know.init W) cs cells ∧ ∀ (j : Nat) (c : Value), cells[j]? = some c → W.cell? ⟨g, j, none⟩ = some c) :
 Sim (Know.init W) G ok W Heap.init W := by
 refine ⟨.refl _ _, Nat.le_refl _, fun g j c h => h, hG, rfl, fun b b' g h => ?_, fun b g cs h => ?_, rfl, fun b b' g h => ?_, fun l g r h => ?_, rfl, fun t ht => ?_, fun t t' ht => ?_, fun r hr => ?_, rfl⟩
 ·simp [Know.init] at h
 ·simp [Know.init] at h
 ·simp [Know.init] at h
 ·simp [Know.init] at h
 ·simp [alive, Heap.init] at ht
 ·simp [alive, Heap.init] at ht
 ·simp [Know.init] at hr

def tiles (P : Program) : Nat → List Field → Nat → Bool
 | off, [], total => Nat.beq off total
 | off, f :: fs, total => Nat.beq f.offset off && tiles P (off + P.cellsOf f.type) fs total

def okTy (P : Program) : Nat → TypeId → Bool
 | 0, _ => false
 | n + 1, t =>
  match P.underlying t with
  | some .bool | some (.int _) | some .string => true
  | some (.slice e) => okTy P n e && decide (0 < P.cellsOf e)
  | some (.struct fs) => tiles P 0 fs.toList (P.cellsOf t) && fs.toList.all fun f => okTy P n f.type
  | some (.array m e) => Nat.beq (P.cellsOf t) (m * P.cellsOf e) && okTy P n e
  | _ => false

inductive Has {H : Type} (P : Program) : TypeId → List AV → DataW H → Prop
 | bool {t : TypeId} (hu : P.underlying t = some .bool) (b : Bool) : Has P t [.v (.bool b)] (.lit (.bool b))
 | int {t : TypeId} {k : IntKind} (hu : P.underlying t = some (.int k)) (n : Int) (hn : (Lit.int k n).wf = true) : Has P t [.v (.int k n)] (.lit (.int k n))
 | str {t : TypeId} (hu : P.underlying t = some .string) (s : ByteArray) (hs : s.size ≤ maxLen) : Has P t [.v (.string s)] (.lit (.string s.data.toList))
 | none {t e : TypeId} (hu : P.underlying t = some (.slice e)) : Has P t [.list .nil (P.cellsOf e) []] .nil
 | list {t e : TypeId} (hu : P.underlying t = some (.slice e)) (k : Tok) (es : List (List AV)) (ds sp : List (DataW H)) (hk : k = .held ∨ (k = .tight ∧ es = [])) (hl : es.length ≤ maxLen) (hd : ds.length = es.length)
  (he : ∀ (i : Nat) (r : List AV) (d : DataW H), es[i]? = some r → ds[i]? = some d → Has P e r d) (hs : ∀ r ∈ es, r.length = P.cellsOf e) : Has P t [.list k (P.cellsOf e) es] (.slice ds sp)
 | struct {t : TypeId} {fs : Array Field} (hu : P.underlying t = some (.struct fs)) (xs : List AV) (ds : List (DataW H)) (hl : xs.length = P.cellsOf t) (hd : ds.length = fs.size)
  (hf : ∀ (i : Nat) (f : Field) (d : DataW H), fs[i]? = some f → ds[i]? = some d → Has P f.type ((xs.drop f.offset).take (P.cellsOf f.type)) d) : Has P t xs (.agg ds)
 | array {t e : TypeId} {n : Nat} (hu : P.underlying t = some (.array n e)) (xs : List AV) (ds : List (DataW H)) (hl : xs.length = P.cellsOf t) (hd : ds.length = n)
  (he : ∀ (i : Nat) (d : DataW H), ds[i]? = some d → Has P e ((xs.drop (i * P.cellsOf e)).take (P.cellsOf e)) d) : Has P t xs (.agg ds)

section
variable {H : Type} {enc : TypeId × Value → H} {P : Program} {W : World}

theorem cells_read {a : Addr} {n : Nat} {vs : List Value} (h : W.cells? 0 a n = some vs) : vs.length = n ∧ ∀ j, j < n → W.cell? (a.add j) = vs[j]? := by
 unfold World.cells? at h
 rw [if_pos (Nat.zero_le _)] at h
 refine ⟨by simpa using mapM_some_length h, fun j hj => mapM_some_get h j j (by simp [hj])⟩

theorem spot_none {a : Addr} {v : Value} (h : W.cell? a = some v) : a.spot = none := by
 unfold World.cell? at h
 split at h
 ·cases hs : a.spot with
  | none => rfl
  | some s => rw [hs] at h; simp at h
 ·cases h

end
end Go.AE
end

section
namespace Go.AE
open Go.RowKit Go.WideShapes Go.ChangeShapes

def HasV {H : Type} (P : Program) (t : TypeId) (x : AV) (d : DataW H) : Prop :=
 match P.underlying t with
 | some (.struct _) | some (.array _ _) => ∃ cs, x = .agg cs ∧ Has P t cs d
 | _ => Has P t [x] d

def HasAll {H : Type} (P : Program) : List TypeId → List AV → List (DataW H) → Prop
 | [], [], [] => True
 | t :: ts, x :: xs, d :: ds => HasV P t x d ∧ HasAll P ts xs ds
 | _, _, _ => False

section
variable {H : Type} {enc : TypeId × Value → H} {P : Program} {W : World}

theorem args_stay (hl : laidOutB P = true) {W' : World} {sp : Nat → Bool} : ∀ {ts : List TypeId} {vs : List Value} {ds : List (DataW H)} {p : List MemPlace}, DataW.TrodAll enc P W 0 (fun _ => true) true ts vs ds p →
 (∀ t ∈ ts, P.readableRec t = true ∧ t < P.types.size) → (∀ x ∈ p, W.sameAt W' x) → (∀ x ∈ p, sp x.block = true) → DataW.TrodAll enc P W' 0 sp true ts vs ds p := by
 intro ts
 induction ts with
 | nil =>
  intro vs ds p h _ _ _
  obtain ⟨rfl, rfl, rfl⟩ := trodAll_nil h
  exact trodAll_mk0
 | cons t ts ih =>
  intro vs ds p h hr hs hsp
  obtain ⟨v, vs', d, ds', p1, q1, rfl, rfl, rfl, h1, h2⟩ := trodAll_cons h
  exact trodAll_cons_mk (WideElems.Trod_stays hl (hr t List.mem_cons_self).1 (hr t List.mem_cons_self).2 h1 (fun x hx => hs x (List.mem_append_left _ hx)) (fun x hx => hsp x (List.mem_append_left _ hx)))
   (ih h2 (fun t ht => hr t (List.mem_cons_of_mem _ ht)) (fun x hx => hs x (List.mem_append_right _ hx)) (fun x hx => hsp x (List.mem_append_right _ hx)))

theorem post_below {f : Func} {s : ChangeSpec} {apart fresh handsOn again : Bool} {W W' : World} {args : Array Value} {v : Value} {ds gs : List (DataW H)} {before pa pv : List MemPlace}
 (hW : DataW.Whole enc P f.params.toList s.vars apart W args.toList ds gs before)
 (hres : ∀ (b : Nat) (sp : Nat → Bool) (hd : Bool), DataW.TrodAll enc P W' b sp hd f.resultTypes.toList (v.resultList f.resultTypes.size) (s.fn H (ds ++ gs)).results [])
 (hargs : ∀ sp : Nat → Bool, (∀ p ∈ before, sp p.block = true) → DataW.TrodAll enc P W' 0 sp true f.params.toList args.toList (s.fn H (ds ++ gs)).args pa)
 (hvars : ∀ sp : Nat → Bool, (∀ p ∈ before, sp p.block = true) → DataW.TrodVars enc P W' sp s.vars (s.fn H (ds ++ gs)).vars pv)
 (hps : before = pa ++ pv) (hb : Below W.heap.size W W')
 (hok : ∀ (j : Nat) (t : TypeId) (r : Value), f.resultTypes[j]? = some t → (v.resultList f.resultTypes.size)[j]? = some r → Value.okWide P W' .any 0 t r) :
 s.post enc P f apart fresh handsOn again W args v W' := by
 have hlt : ∀ p ∈ before, p.block < W.heap.size := fun p hp => hW.lt p hp
 have hold : ∀ p ∈ before, (fun b => decide (b < W.heap.size)) p.block = true := fun p hp => by simpa using hlt p hp
 refine ⟨ds, gs, before, [], pa, pv, hW, hres _ _ _, hargs _ hold, hvars _ hold, World.keptBut_mono (fun p hp => ⟨hp, ?_⟩) (hb.frame (· ∈ before)), fun _ => ?_⟩
 ·rw [hps, List.mem_append] at hp
  exact Or.inr hp
 ·obtain ⟨_, _, _, _, _, hz, hn⟩ := hW
  refine ⟨hok, _, _, ([] ++ pa) ++ pv, ⟨[] ++ pa, pv, trodAll_append (hargs _ (fun _ _ => rfl)) (hres _ _ _), hvars _ (fun _ _ => rfl), rfl, ?_, ?_⟩, ?_⟩
  ·intro b off hp
   have hin : MemPlace.cell b off ∈ before := by rw [hps]; simpa using hp
   rw [hb.frozen (hlt _ hin)]
   exact hz b off hin
  ·intro ha
   have := hn ha
   rw [hps] at this
   simpa using this
  ·intro p hp _
   rw [hps]
   simpa using hp

structure LawFacts (P : Program) (f : FuncId) (fn : Func) (tb : TypeId) : Prop where
 func : P.funcs[f]? = some fn
 laid : laidOutB P = true
 tys : ∀ t ∈ fn.params.toList, okTy P 9 t = true ∧ P.readableRec t = true ∧ t < P.types.size
 res : fn.resultTypes = #[tb]
 bool : P.underlying tb = some .bool

variable {G : Nat → Option (List AV)} {prims : FuncId → Option (List AV → Heap → Option (AV × Heap))}

end
end Go.AE
end

section
namespace Go.AE
open Go.RowKit (Below)

section
variable {K : Know} {G : Nat → Option (List AV)} {ok : FuncId → Nat → Code → Bool} {w0 w w' : World} {h : Heap}

theorem Sim.grown (s : Sim K G ok w0 h w) (hb : Below w.heap.size w w') : Sim K G ok w0 h w' := by
 have hk : ∀ {k : Nat} {o : Obj}, w.heap[k]? = some o → w'.heap[k]? = some o := fun hk => (hb.block _ (lt_of_heap hk)).trans hk
 refine ⟨s.old.trans (hb.mono s.size), Nat.le_trans s.size hb.size, fun g j c hg => ?_, s.glob, s.βlen, s.βnd, fun b g cs hb' hc => ?_, s.γlen, s.γnd, fun l g r hl hr => ?_, s.tn, fun t ht => ?_, s.tokd, fun r hr => ?_, s.all⟩
 ·rw [← s.ic g j c hg]
  exact World.cell?_of_block (w := w) (hb.block g (s.lt_of_cell hg))
 ·obtain ⟨h1, h2, ha, cells, e, h3, h4⟩ := s.box b g cs hb' hc
  exact ⟨h1, h2, ha, cells, e, hk h3, h4⟩
 ·obtain ⟨h1, fn, tmps, d, h2, h3⟩ := s.loop l g r hl hr
  exact ⟨h1, fn, tmps, d, hk h2, h3⟩
 ·obtain ⟨h1, h2, h3, cells, e, fz, h4, h5, h6⟩ := s.tok t ht
  refine ⟨h1, h2, h3, cells, e, fz, hk h4, h5, fun j hj hl => ?_⟩
  rw [← h6 j hj hl]
  exact World.frozen?_of_block (w := w) (hb.block _ (lt_of_heap h4))
 ·exact ⟨(s.md r hr).1, hk (s.md r hr).2⟩

theorem rows_cells {P : Program} (s : Sim K G ok w0 h w) {x : AV} {rows : List (List AV)} (he : rowsOf h 1 x = some rows) {c : Value} (hv : VRel K x c) :
 ∃ a cap vals, c = .slice a rows.length cap ∧ VsRel K rows.flatten vals ∧ vals.length = rows.length ∧ (rows = [] ∨ ∃ bk o, a = some ⟨bk, o, none⟩ ∧ rows.length ≤ cap ∧ bk < w.heap.size ∧ ∀ (j : Nat) (v : Value), vals[j]? = some v → w.cell? ⟨bk, o + j, none⟩ = some v) := by
 obtain ⟨a, cap, vals, rfl, r1, r2, r3, r4, r5, r6⟩ := rows_rel (P := P) s he hv
 refine ⟨a, cap, vals, rfl, r2, by simpa using r4, ?_⟩
 by_cases hnil : rows = []
 ·exact .inl hnil
 ·refine .inr ?_
  have hpos : 0 < vals.length := by
   rw [r4, Nat.mul_one]
   exact List.length_pos_iff.2 hnil
  unfold rowsOf at he
  split at he
  ·rename_i k sz es
   split at he
   ·rename_i hsz
    injection he with he; subst he
    cases hv with
    | nil => exact absurd rfl hnil
    | none0 => exact absurd rfl hnil
    | list _ _ _ g off n _ cells hn hr hvs hic ht ha =>
     have hsz1 : sz = 1 := hsz.resolve_right hnil
     have hcl : cells.length = es.length := by rw [← hvs.length, flatten_length hr, hsz1, Nat.mul_one]
     have hcell : ∀ (j : Nat) (v : Value), cells[j]? = some v → w.cell? ⟨g, off + j, none⟩ = some v := fun j v hj => s.ic _ _ _ (hic j v hj)
     have hl := run_loadCells_list (P := P) w ⟨g, off, none⟩ cells (fun j v hj => by rw [Addr.add_none]; exact hcell j v hj)
     have h5 := r5 _ rfl
     rw [Nat.mul_one, ← hcl, hl] at h5
     injection h5 with h5 _
     have : cells = vals := by simpa using h5
     subst this
     obtain ⟨v0, hv0⟩ : ∃ v, cells[0]? = some v := ⟨_, List.getElem?_eq_getElem hpos⟩
     exact ⟨g, off, rfl, ht.1, s.lt_of_cell (hic 0 v0 hv0), hcell⟩
   ·cases he
  ·rename_i b off len cap'
   split at he
   ·rename_i cs hcs
    split at he
    ·rename_i hfit
     injection he with he
     cases hv with
     | arr _ g _ _ _ off' cap2 hb hl hcc hoo hrr =>
      obtain ⟨_, _, ka, cells, e, k3, k4⟩ := s.box b g cs hb hcs
      rw [Nat.mul_one] at hfit
      have hcl : cs.length ≤ cells.toList.length := by
       have := k4.le
       simpa using this
      have hoe : off' = off := by
       rcases hoo with p | p
       ·exact p
       ·exfalso
        rw [Nat.mul_one] at r4
        omega
      subst hoe
      generalize rows.length = len at *
      have hcell : ∀ (j : Nat) (v : Value), ((cells.toList.drop off').take len)[j]? = some v → w.cell? ⟨g, off' + j, none⟩ = some v := by
       intro j v hj
       rw [cell_of k3]
       rw [List.getElem?_take] at hj
       split at hj
       ·rw [List.getElem?_drop] at hj
        simpa using hj
       ·cases hj
      have hl2 := run_loadCells_list (P := P) w ⟨g, off', none⟩ ((cells.toList.drop off').take len) (fun j v hj => by rw [Addr.add_none]; exact hcell j v hj)
      have hl3 : ((cells.toList.drop off').take len).length = len := by simp; simp at hcl; omega
      have h5 := r5 _ rfl
      rw [Nat.mul_one] at h5
      rw [hl3, h5] at hl2
      injection hl2 with hl2 _
      have : vals = (cells.toList.drop off').take len := by
       have := congrArg Array.toList hl2
       simpa using this
      subst this
      exact ⟨g, off', rfl, by omega, lt_of_heap k3, hcell⟩
    ·cases he
   ·cases he
  ·cases he

theorem PrimOk.of_below {P : Program} {g : FuncId} {p : List AV → Heap → Option (AV × Heap)} (hfn : ∃ fn, P.funcs[g]? = some fn ∧ fn.body.isSome = true)
 (hp : ∀ args h x h', p args h = some (x, h') → h' = h ∧ ∀ (K : Know) (w : World) (vargs : Array Value), VsRel K args vargs.toList → SimP P G w0 K h w → Below w0.heap.size w0 w →
  Calls P g vargs w fun e w' => ∃ v, e = .returned v ∧ VRel K x v ∧ Below w.heap.size w w') : PrimOk P G w0 g p := by
 refine ⟨hfn, fun args h x h' he K w vargs hv hs => ?_⟩
 obtain ⟨rfl, hc⟩ := hp args h x h' he
 refine (hc K w vargs hv hs (hs.all ▸ hs.old)).mono fun e w' ⟨v, h1, h2, h3⟩ => ⟨v, K, h1, .refl K, h2, hs.grown h3⟩

theorem var_stays {P : Program} (hb : Below w.heap.size w w') {n : String} {cs : Array Value} (h : w.var? P n = some cs) : w'.var? P n = some cs := by
 unfold World.var? at h ⊢
 cases hg : P.globalNamed n with
 | none => rw [hg] at h; cases h
 | some g =>
  rw [hg] at h
  simp only [Option.bind_some] at h ⊢
  have hlt : g < w.heap.size := by
   rcases Nat.lt_or_ge g w.heap.size with hlt | hge
   ·exact hlt
   ·rw [Array.getElem?_eq_none hge] at h; cases h
  rw [hb.block g hlt]
  exact h

end
end Go.AE
end

section
namespace Go.AE

def Heap.push (h : Heap) (cs : List AV) : Heap := { h with boxes := h.boxes ++ [cs] }
def Heap.put (h : Heap) (b : Nat) (cs : List AV) : Heap := { h with boxes := h.boxes.set b cs }

theorem box_push (h : Heap) (cs : List AV) : h.box cs = (.ptr (.box h.boxes.length) 0, h.push cs) := rfl
theorem push_len (h : Heap) (cs : List AV) : (h.push cs).boxes.length = h.boxes.length + 1 := by simp [Heap.push]
theorem push_last (h : Heap) (cs : List AV) : (h.push cs).boxes[h.boxes.length]? = some cs := by simp [Heap.push]
theorem push_old {h : Heap} {cs ds : List AV} {b : Nat} (hb : h.boxes[b]? = some ds) : (h.push cs).boxes[b]? = some ds := getElem?_snoc_old hb
theorem put_this {h : Heap} {cs : List AV} {b : Nat} (hb : b < h.boxes.length) : (h.put b cs).boxes[b]? = some cs := by simp [Heap.put, hb]
theorem put_other {h : Heap} {cs : List AV} {b c : Nat} (hb : c ≠ b) : (h.put b cs).boxes[c]? = h.boxes[c]? := by simp [Heap.put, List.getElem?_set, Ne.symm hb]
theorem put_len (h : Heap) (b : Nat) (cs : List AV) : (h.put b cs).boxes.length = h.boxes.length := by simp [Heap.put]

def okHeap (h : Heap) : Bool := h.dead.all fun n => decide (n < h.tn)

structure Ext (h h' : Heap) : Prop where
 box : ∀ (b : Nat) (cs : List AV), h.boxes[b]? = some cs → h'.boxes[b]? = some cs
 loop : ∀ (l : Nat) (r : LoopRec), h.loops[l]? = some r → h'.loops[l]? = some r
 tn : h.tn ≤ h'.tn
 dead : ∀ n, n < h.tn → n ∈ h'.dead → n ∈ h.dead
 ok : okHeap h = true → okHeap h' = true

theorem Ext.refl (h : Heap) : Ext h h := ⟨fun _ _ h => h, fun _ _ h => h, Nat.le_refl _, fun _ _ h => h, fun h => h⟩
theorem Ext.trans {a b c : Heap} (h : Ext a b) (k : Ext b c) : Ext a c :=
 ⟨fun i cs hb => k.box i cs (h.box i cs hb), fun l r hl => k.loop l r (h.loop l r hl), Nat.le_trans h.tn k.tn, fun n hn hd => h.dead n hn (k.dead n (Nat.lt_of_lt_of_le hn h.tn) hd), fun ho => k.ok (h.ok ho)⟩
theorem Ext.push (h : Heap) (cs : List AV) : Ext h (h.push cs) := ⟨fun _ _ hb => push_old hb, fun _ _ h => h, Nat.le_refl _, fun _ _ h => h, fun h => h⟩
theorem Ext.fresh (h : Heap) (sz : Nat) (es : List (List AV)) : Ext h (h.fresh sz es).2 := ⟨fun _ _ hb => hb, fun _ _ h => h, Nat.le_succ _, fun _ _ h => h, fun ho => by
 unfold okHeap at *
 simp only [Heap.fresh, List.all_eq_true, decide_eq_true_eq] at *
 exact fun n hn => decide_eq_true (Nat.lt_succ_of_lt (ho n hn))⟩
theorem Ext.alive {h h' : Heap} (x : Ext h h') {n : Nat} (ha : alive h n = true) : alive h' n = true := by
 unfold AE.alive at *
 simp only [Bool.and_eq_true, decide_eq_true_eq, Bool.not_eq_true', List.contains_eq_mem, decide_eq_false_iff_not] at *
 exact ⟨Nat.lt_of_lt_of_le ha.1 x.tn, fun hd => ha.2 (x.dead n ha.1 hd)⟩
theorem Ext.len {h h' : Heap} (x : Ext h h') : h.boxes.length ≤ h'.boxes.length := by
 rcases Nat.lt_or_ge h'.boxes.length h.boxes.length with hlt | hge
 ·have h1 := x.box h'.boxes.length _ (List.getElem?_eq_getElem hlt)
  have := (List.getElem?_eq_some_iff.1 h1).1
  omega
 ·exact hge

noncomputable def heapOf (R : Rec) (g : FuncId) (args : List AV) (h : Heap) : Heap :=
 match R.call g args h with
 | some (_, h') => h'
 | none => h

theorem heapOf_eq {R : Rec} {g : FuncId} {args : List AV} {h h' : Heap} {r : Res} (hc : R.call g args h = some (r, h')) : heapOf R g args h = h' := by unfold heapOf; rw [hc]

def Says (R : Rec) (g : FuncId) (args : List AV) (h : Heap) (r : Res) : Prop := ∃ h', R.call g args h = some (r, h') ∧ Ext h h'
theorem Says.eq {R : Rec} {g : FuncId} {args : List AV} {h : Heap} {r : Res} (hs : Says R g args h r) : R.call g args h = some (r, heapOf R g args h) := by
 obtain ⟨h', h1, -⟩ := hs
 rw [heapOf_eq h1]; exact h1
theorem Says.ext {R : Rec} {g : FuncId} {args : List AV} {h : Heap} {r : Res} (hs : Says R g args h r) : Ext h (heapOf R g args h) := by
 obtain ⟨h', h1, h2⟩ := hs
 rw [heapOf_eq h1]; exact h2

def endX (P : Program) (G : Nat → Option (List AV)) (R : Rec) (fn : Func) (r : Res) (Post : Heap → Prop) : Xt → Env → Heap → Prop := fun o e h => ∃ h', endQ P G R fn r h' o e h ∧ Post h'
theorem endX_normal {P : Program} {G : Nat → Option (List AV)} {R : Rec} {fn : Func} {r : Res} {Post : Heap → Prop} {e : Env} {h : Heap} : endX P G R fn r Post .normal e h = ∃ h', unwindEv P G R fn e e.defers none h = some (r, h') ∧ Post h' := rfl
theorem endX_ret {P : Program} {G : Nat → Option (List AV)} {R : Rec} {fn : Func} {r : Res} {Post : Heap → Prop} {e : Env} {h : Heap} : endX P G R fn r Post .ret e h = ∃ h', unwindEv P G R fn e e.defers none h = some (r, h') ∧ Post h' := rfl
theorem endX_panic {P : Program} {G : Nat → Option (List AV)} {R : Rec} {fn : Func} {r : Res} {Post : Heap → Prop} {e : Env} {h : Heap} {x : AV} : endX P G R fn r Post (.panic x) e h = ∃ h', unwindEv P G R fn e e.defers (some (x, false)) h = some (r, h') ∧ Post h' := rfl
theorem call_ex {P : Program} {G : Nat → Option (List AV)} {prims : FuncId → Option (List AV → Heap → Option (AV × Heap))} {g : FuncId} {fn : Func} {body : Code} {args : List AV} {r : Res} {h : Heap} {Post : Heap → Prop} (hp : prims g = none) (hfn : P.funcs[g]? = some fn) (hb : fn.body = some body)
 (hr : Run (whole P G prims) body (Env.start args none) h (endX P G (whole P G prims) fn r Post)) : ∃ h', (whole P G prims).call g args h = some (r, h') ∧ Post h' := by
 obtain ⟨o, e1, h1, h2, h', h3, h4⟩ := hr
 exact ⟨h', call_of_run hp hfn hb ⟨o, e1, h1, h2, h3⟩, h4⟩

section
variable {P : Program} {G : Nat → Option (List AV)} {h : Heap} {t : TypeId} {b off n : Nat} {cs : List AV}
theorem load_one (ha : isAggB P t = some false) (hb : h.boxes[b]? = some cs) : loadEv P G h t (.ptr (.box b) off) = (cs.drop off).head? := by
 unfold loadEv cellsAt refCells
 simp only [ha, hb, Option.map_some]
theorem load_agg (ha : isAggB P t = some true) (hs : sizeB P t = some n) (hb : h.boxes[b]? = some cs) (hl : off + n ≤ cs.length) : loadEv P G h t (.ptr (.box b) off) = some (.agg ((cs.drop off).take n)) := by
 unfold loadEv cellsAt refCells
 simp only [ha, hb, hs, Option.map_some]
 rw [if_pos (by simp; omega)]
theorem load_row {sz i : Nat} {es : List (List AV)} (ha : isAggB P t = some false) : loadEv P G h t (.elem sz es i off) = (es[i]?).bind fun row => (row.drop off).head? := by
 unfold loadEv cellsAt
 simp only [ha]
 cases es[i]? <;> rfl
theorem index_list {e : TypeId} {k : Tok} {kk : IntKind} {sz : Nat} {es : List (List AV)} {a : Int} (hu : P.underlying t = some (.slice e)) (hs : sizeB P e = some sz) (h0 : 0 ≤ a) (h1 : a < es.length) : indexAddrEv P t (.list k sz es) (.v (.int kk a)) = some (.elem sz es a.toNat 0) := by
 unfold indexAddrEv
 rw [hu]
 simp only
 rw [if_pos ⟨h0, h1, hs⟩]
theorem index_arr {e : TypeId} {kk : IntKind} {bb o l c sz : Nat} {a : Int} (hu : P.underlying t = some (.slice e)) (hs : sizeB P e = some sz) (h0 : 0 ≤ a) (h1 : a < l) : indexAddrEv P t (.arr bb o l c) (.v (.int kk a)) = some (.ptr (.box bb) (o + a.toNat * sz)) := by
 unfold indexAddrEv
 rw [hu]
 simp only [hs]
 rw [if_pos ⟨h0, h1⟩]
theorem store_box {x : AV} {xs : List AV} (hx : x.cellsO = some xs) (hs : sizeB P t = some n) (hb : h.boxes[b]? = some cs) (hn : xs.length = n) (hl : off + n ≤ cs.length) : storeEv P h t (.ptr (.box b) off) x = some (h.put b (splice cs off xs)) := by
 unfold storeEv
 simp only [hx, hs, hb]
 rw [if_pos ⟨hn, hl⟩]
 rfl
theorem put_push (h : Heap) (z cs : List AV) : (h.push z).put h.boxes.length cs = h.push cs := by
 simp [Heap.push, Heap.put, List.set_append_right]
theorem splice_all {z xs : List AV} (hl : xs.length = z.length) : splice z 0 xs = xs := by
 simp [splice, hl]
theorem store_push {x : AV} {xs z : List AV} (hx : x.cellsO = some xs) (hs : sizeB P t = some n) (hn : xs.length = n) (hz : z.length = n) : storeEv P (h.push z) t (.ptr (.box h.boxes.length) 0) x = some (h.push xs) := by
 rw [store_box hx hs (push_last h z) hn (by omega), splice_all (by omega), put_push]
theorem load_push {off : Nat} {cs : List AV} (ha : isAggB P t = some false) : loadEv P G (h.push cs) t (.ptr (.box h.boxes.length) off) = (cs.drop off).head? := load_one ha (push_last h cs)
theorem load_push2 {off : Nat} {cs ds : List AV} (ha : isAggB P t = some false) : loadEv P G ((h.push cs).push ds) t (.ptr (.box h.boxes.length) off) = (cs.drop off).head? := load_one ha (push_old (push_last h cs))
theorem load_push_agg {cs : List AV} (ha : isAggB P t = some true) (hs : sizeB P t = some n) (hl : cs.length = n) : loadEv P G (h.push cs) t (.ptr (.box h.boxes.length) 0) = some (.agg cs) := by
 rw [load_agg ha hs (push_last h cs) (by omega)]
 simp [← hl]
theorem load_push2_agg {cs ds : List AV} (ha : isAggB P t = some true) (hs : sizeB P t = some n) (hl : cs.length = n) : loadEv P G ((h.push cs).push ds) t (.ptr (.box h.boxes.length) 0) = some (.agg cs) := by
 rw [load_agg ha hs (push_old (push_last h cs)) (by omega)]
 simp [← hl]
theorem load_row_agg {sz i : Nat} {es : List (List AV)} (ha : isAggB P t = some true) (hs : sizeB P t = some n) : loadEv P G h t (.elem sz es i off) = (es[i]?).bind fun row => if n ≤ (row.drop off).length then some (.agg ((row.drop off).take n)) else none := by
 unfold loadEv cellsAt
 simp only [ha, hs]
 cases es[i]? <;> rfl
end
end Go.AE
end

section
namespace Go.AE

section
variable {P : Program} {G : Nat → Option (List AV)} {R : Rec}

theorem opsL_part (ops : Array Oper) : ∀ (n i : Nat), i + n ≤ ops.size → ∀ (e : Env) (h : Heap), opsEv P G R ops (List.range' i n) e h = opsL P G R ops ((ops.toList.drop i).take n) e h := by
 intro n
 induction n with
 | zero => intro i hi e h; rfl
 | succ n ih =>
  intro i hi e h
  have hlt : i < ops.size := by omega
  have ho : ops[i]? = some ops[i] := Array.getElem?_eq_getElem hlt
  rw [List.range'_succ, List.drop_eq_getElem_cons (by simpa using hlt), List.take_succ_cons]
  simp only [opsEv, opsL, ho, Array.getElem_toList]
  cases wantedA ops e ops[i] with
  | none => rfl
  | some b =>
   cases b with
   | false => exact ih (i + 1) (by omega) _ _
   | true =>
    simp only
    cases opEv P G R e h ops[i] with
    | none => rfl
    | some q =>
     obtain ⟨r, e1, h1⟩ := q
     cases r with
     | ret x => exact ih (i + 1) (by omega) _ _
     | panic x => rfl
theorem opsEv_take {ops : Array Oper} {m : Nat} (hm : m ≤ ops.size) (e : Env) (h : Heap) : opsEv P G R ops (List.range m) e h = opsL P G R ops (ops.toList.take m) e h := by
 rw [List.range_eq_range', opsL_part ops m 0 (by omega)]
 rfl

def drawBut (ops : Array Oper) (ps : List (Nat × Nat)) : Bool :=
 let b := Region.before ops
 beforeOk ops b && (List.range ops.size).all fun j => (List.range j).all fun i => (b.getD j 0).testBit i || passOk ops i j || ps.contains (i, j)

theorem fits_but {ops : Array Oper} {ps : List (Nat × Nat)} {e : Env} {h : Heap} (hd : drawBut ops ps = true) (hs : ∀ p ∈ ps, stableOk P G R ops e h p.1 p.2 = true) : drawFits P G R ops e h = true := by
 unfold drawBut at hd
 unfold drawFits
 simp only [Bool.and_eq_true, List.all_eq_true, List.mem_range, Bool.or_eq_true] at hd ⊢
 refine ⟨hd.1, fun j hj i hi => ?_⟩
 rcases hd.2 j hj i hi with (h1 | h1) | h1
 ·exact .inl (.inl (.inl h1))
 ·exact .inl (.inl (.inr h1))
 ·exact .inl (.inr (hs (i, j) (by simpa using h1)))

def drawCalm (ops : Array Oper) (cs : List Nat) (ps : List (Nat × Nat)) : Bool :=
 let b := Region.before ops
 beforeOk ops b && (List.range ops.size).all fun j => (List.range j).all fun i => (b.getD j 0).testBit i || passOk ops i j || ps.contains (i, j) || (apartOk ops i j && (cs.contains i || cs.contains j))
theorem fits_calm {ops : Array Oper} {cs : List Nat} {ps : List (Nat × Nat)} {e : Env} {h : Heap} (hd : drawCalm ops cs ps = true) (hc : ∀ k ∈ cs, calmP P G R ops e h k) (hs : ∀ p ∈ ps, stableOk P G R ops e h p.1 p.2 = true) : drawFits P G R ops e h = true := by
 unfold drawCalm at hd
 unfold drawFits
 simp only [Bool.and_eq_true, List.all_eq_true, List.mem_range, Bool.or_eq_true] at hd ⊢
 refine ⟨hd.1, fun j hj i hi => ?_⟩
 rcases hd.2 j hj i hi with ((h1 | h1) | h1) | ⟨h1, h2⟩
 ·exact .inl (.inl (.inl h1))
 ·exact .inl (.inl (.inr h1))
 ·exact .inl (.inr (hs (i, j) (by simpa using h1)))
 ·exact .inr ⟨h1, h2.imp (fun q => calmB_of.2 (hc i (by simpa using q))) (fun q => calmB_of.2 (hc j (by simpa using q)))⟩
theorem calm_of {ops : Array Oper} {e : Env} {h : Heap} {k : Nat} {o : Oper} {c : Call} {x : AV} (ho : ops[k]? = some o) (hop : o.op = .call c)
 (h1 : RunL P G R ops (ops.toList.take k) e h (fun q er _ => q = .normal ∧ ∀ hm, callEv P R er hm c = some (.ret x, hm)))
 (h2 : RunL P G R ops ops.toList e h (fun q _ _ => q = .normal)) : calmP P G R ops e h k := by
 have hk : k < ops.size := (Array.getElem?_eq_some_iff.1 ho).1
 obtain ⟨q1, er, hr, e1, rfl, e2⟩ := h1
 obtain ⟨q2, en, hn, f1, rfl⟩ := h2
 rw [← opsEv_take (by omega)] at e1
 have hall : opsEv P G R ops (List.range ops.size) e h = some (.normal, en, hn) := by
  rw [opsEv_take (Nat.le_refl _), ← Array.length_toList, List.take_length]; exact f1
 obtain ⟨-, tr, -⟩ := trace hall
 exact ⟨o, c, x, er, hr, ho, hop, e1, fun m hm => ⟨_, _, tr m hm, e2 _⟩⟩

theorem stable_before {ops : Array Oper} {e : Env} {h : Heap} {i j : Nat} {o : Oper} {t : TypeId} {a : Operand} (hap : apartOk ops i j = true) (ho : ops[i]? = some o) (hop : o.op = .load t a) (hg : o.guard = none)
 (hj : (ops[j]?).map (fun o => classOf o.op) = some .acts) {x v : AV} (hv : sameAV v v = true)
 (h1 : RunL P G R ops (ops.toList.take i) e h (fun q er hr => q = .normal ∧ er.eval a = x ∧ loadEv P G hr t x = some v))
 (h2 : RunL P G R ops (ops.toList.take (j + 1)) e h (fun q _ hm => q = .normal ∧ loadEv P G hm t x = some v)) : stableOk P G R ops e h i j = true := by
 have hi : i < ops.size := by
  rcases Nat.lt_or_ge i ops.size with hh | hh
  ·exact hh
  ·rw [Array.getElem?_eq_none hh] at ho; cases ho
 have hjs : j < ops.size := by
  rcases Nat.lt_or_ge j ops.size with hh | hh
  ·exact hh
  ·rw [Array.getElem?_eq_none hh] at hj; cases hj
 have hc : (ops[i]?).map (fun o => classOf o.op) = some .reads := by rw [ho]; simp only [Option.map_some, hop]; rfl
 unfold stableOk
 rw [hap, hc, hj]
 simp only [Bool.true_and]
 unfold stable
 rw [ho, opsEv_take (by omega), opsEv_take (by omega)]
 obtain ⟨q1, er, hr, e1, rfl, e2, e3⟩ := h1
 obtain ⟨q2, em, hm, f1, rfl, f2⟩ := h2
 rw [e1, f1]
 simp only [wantedA, hg, hop, e2, e3, f2, hv]
theorem stable_behind {ops : Array Oper} {e : Env} {h : Heap} {i j : Nat} {o : Oper} {t : TypeId} {a : Operand} (hap : apartOk ops i j = true) (ho : ops[j]? = some o) (hop : o.op = .load t a) (hg : o.guard = none)
 (hj : (ops[i]?).map (fun o => classOf o.op) = some .acts) {x v : AV} (hv : sameAV v v = true)
 (h1 : RunL P G R ops (ops.toList.take j) e h (fun q er hr => q = .normal ∧ er.eval a = x ∧ loadEv P G hr t x = some v))
 (h2 : RunL P G R ops (ops.toList.take i) e h (fun q _ hm => q = .normal ∧ loadEv P G hm t x = some v)) : stableOk P G R ops e h i j = true := by
 have hi : i < ops.size := by
  rcases Nat.lt_or_ge i ops.size with hh | hh
  ·exact hh
  ·rw [Array.getElem?_eq_none hh] at hj; cases hj
 have hjs : j < ops.size := by
  rcases Nat.lt_or_ge j ops.size with hh | hh
  ·exact hh
  ·rw [Array.getElem?_eq_none hh] at ho; cases ho
 have hc : (ops[j]?).map (fun o => classOf o.op) = some .reads := by rw [ho]; simp only [Option.map_some, hop]; rfl
 unfold stableOk
 rw [hap, hc, hj]
 simp only [Bool.true_and]
 unfold stable
 rw [ho, opsEv_take (by omega), opsEv_take (by omega)]
 obtain ⟨q1, er, hr, e1, rfl, e2, e3⟩ := h1
 obtain ⟨q2, em, hm, f1, rfl, f2⟩ := h2
 rw [e1, f1]
 simp only [wantedA, hg, hop, e2, e3, f2, hv]
end

section
variable {P : Program} {G : Nat → Option (List AV)} {prims : FuncId → Option (List AV → Heap → Option (AV × Heap))} {Q : Xt → Env → Heap → Prop} {e : Env} {h : Heap}
theorem run_draw_but {id : Nat} {ops : Array Oper} (ps : List (Nat × Nat)) (hd : drawBut ops ps = true) (hs : ∀ p ∈ ps, stableOk P G (whole P G prims) ops e h p.1 p.2 = true)
 (hr : RunL P G (whole P G prims) ops ops.toList e h (calmQ Q)) : Run (whole P G prims) (.region id ops true) e h Q :=
 run_draw_of (fits_but hd hs) hr
theorem run_draw_calm {id : Nat} {ops : Array Oper} (cs : List Nat) (ps : List (Nat × Nat)) (hd : drawCalm ops cs ps = true) (hc : ∀ k ∈ cs, calmP P G (whole P G prims) ops e h k) (hs : ∀ p ∈ ps, stableOk P G (whole P G prims) ops e h p.1 p.2 = true)
 (hr : RunL P G (whole P G prims) ops ops.toList e h (calmQ Q)) : Run (whole P G prims) (.region id ops true) e h Q :=
 run_draw_of (fits_calm hd hc hs) hr
end

structure Mut (b n0 : Nat) (h h' : Heap) : Prop where
 box : ∀ (c : Nat) (cs : List AV), c ≠ b → h.boxes[c]? = some cs → h'.boxes[c]? = some cs
 len : h.boxes.length ≤ h'.boxes.length
 loop : ∀ (l : Nat) (r : LoopRec), h.loops[l]? = some r → h'.loops[l]? = some r
 tn : h.tn ≤ h'.tn
 dead : ∀ n, n < n0 → n ∈ h'.dead → n ∈ h.dead
 ok : okHeap h = true → okHeap h' = true

theorem Mut.refl (b n0 : Nat) (h : Heap) : Mut b n0 h h := ⟨fun _ _ _ h => h, Nat.le_refl _, fun _ _ h => h, Nat.le_refl _, fun _ _ h => h, fun h => h⟩
theorem Mut.trans {b n0 : Nat} {x y z : Heap} (h : Mut b n0 x y) (k : Mut b n0 y z) : Mut b n0 x z :=
 ⟨fun i cs hi hb => k.box i cs hi (h.box i cs hi hb), Nat.le_trans h.len k.len, fun l r hl => k.loop l r (h.loop l r hl), Nat.le_trans h.tn k.tn, fun n hn hd => h.dead n hn (k.dead n hn hd), fun ho => k.ok (h.ok ho)⟩
theorem Mut.of_ext {b n0 : Nat} {h h' : Heap} (x : Ext h h') (hn : n0 ≤ h.tn) : Mut b n0 h h' :=
 ⟨fun c cs _ hc => x.box c cs hc, x.len, x.loop, x.tn, fun n h1 h2 => x.dead n (Nat.lt_of_lt_of_le h1 hn) h2, x.ok⟩
theorem Mut.put (b n0 : Nat) (h : Heap) (cs : List AV) : Mut b n0 h (h.put b cs) :=
 ⟨fun c ds hc hb => by rw [put_other hc]; exact hb, by rw [put_len]; exact Nat.le_refl _, fun _ _ h => h, Nat.le_refl _, fun _ _ h => h, fun h => h⟩
theorem Ext.mut {b : Nat} {h0 h h' : Heap} (x : Ext h0 h) (m : Mut b h0.tn h h') (hb : h0.boxes.length ≤ b) : Ext h0 h' :=
 ⟨fun c cs hc => by
  have hlt := (List.getElem?_eq_some_iff.1 hc).1
  exact m.box c cs (by omega) (x.box c cs hc), fun l r hl => m.loop l r (x.loop l r hl), Nat.le_trans x.tn m.tn, fun n hn hd => x.dead n hn (m.dead n hn hd), fun ho => m.ok (x.ok ho)⟩

def Heap.app (h : Heap) (k : Tok) : Heap :=
 match k with
 | .free n => { h with dead := n :: h.dead, tn := h.tn + 1 }
 | _ => { h with tn := h.tn + 1 }
theorem app_boxes (h : Heap) (k : Tok) : (h.app k).boxes = h.boxes := by cases k <;> rfl
theorem app_loops (h : Heap) (k : Tok) : (h.app k).loops = h.loops := by cases k <;> rfl
theorem app_tn (h : Heap) (k : Tok) : (h.app k).tn = h.tn + 1 := by cases k <;> rfl
def CanApp (n0 : Nat) (h : Heap) (k : Tok) : Prop := k = .nil ∨ k = .tight ∨ ∃ n, k = .free n ∧ n0 ≤ n ∧ alive h n = true
theorem Mut.app {b n0 : Nat} {h : Heap} {k : Tok} (hk : CanApp n0 h k) : Mut b n0 h (h.app k) := by
 refine ⟨fun c cs _ hc => by rw [app_boxes]; exact hc, by rw [app_boxes]; exact Nat.le_refl _, fun l r hl => by rw [app_loops]; exact hl, by rw [app_tn]; exact Nat.le_succ _, ?_, ?_⟩
 ·rcases hk with rfl | rfl | ⟨m, rfl, hm, ha⟩
  ·exact fun n _ hn => hn
  ·exact fun n _ hn => hn
  ·intro n hn hd
   rcases List.mem_cons.1 hd with rfl | hd
   ·omega
   ·exact hd
 ·intro ho
  have hlift : ∀ n ∈ h.dead, n < h.tn + 1 := fun n hn => by
   have := List.all_eq_true.1 ho n hn
   simp only [decide_eq_true_eq] at this
   omega
  rcases hk with rfl | rfl | ⟨m, rfl, hm, ha⟩
  ·exact List.all_eq_true.2 fun n hn => decide_eq_true (hlift n hn)
  ·exact List.all_eq_true.2 fun n hn => decide_eq_true (hlift n hn)
  ·refine List.all_eq_true.2 fun n hn => decide_eq_true ?_
   rcases List.mem_cons.1 hn with rfl | hn
   ·unfold alive at ha
    simp only [Bool.and_eq_true, decide_eq_true_eq] at ha
    show n < h.tn + 1
    omega
   ·exact hlift n hn
theorem Ext.app {h0 h : Heap} {k : Tok} (x : Ext h0 h) (hk : CanApp h0.tn h k) : Ext h0 (h.app k) := by
 have m := Mut.app (b := h.boxes.length) hk
 exact x.mut m x.len
theorem app_alive {h : Heap} {k : Tok} (ho : okHeap h = true) (hk : CanApp 0 h k) : alive (h.app k) h.tn = true := by
 have hno : h.dead.contains h.tn = false := by
  rw [Bool.eq_false_iff]
  intro hc
  have := List.all_eq_true.1 ho h.tn (by simpa using hc)
  simp at this
 unfold alive
 rw [app_tn]
 rcases hk with rfl | rfl | ⟨m, rfl, -, ha⟩
 ·simp only [Heap.app, hno]; simp
 ·simp only [Heap.app, hno]; simp
 ·unfold alive at ha
  simp only [Bool.and_eq_true, decide_eq_true_eq] at ha
  have h1 : ¬ (h.tn = m) := by omega
  have h2 : ¬ (h.tn ∈ h.dead) := by simpa using hno
  simp [Heap.app, h1, h2]
theorem CanApp.mono {n0 : Nat} {h : Heap} {k : Tok} (hk : CanApp n0 h k) {n1 : Nat} (hn : n1 ≤ n0) : CanApp n1 h k := by
 rcases hk with rfl | rfl | ⟨m, rfl, hm, ha⟩
 ·exact .inl rfl
 ·exact .inr (.inl rfl)
 ·exact .inr (.inr ⟨m, rfl, by omega, ha⟩)
theorem CanApp.ext {n0 : Nat} {h h' : Heap} {k : Tok} (hk : CanApp n0 h k) (x : Ext h h') : CanApp n0 h' k := by
 rcases hk with rfl | rfl | ⟨m, rfl, hm, ha⟩
 ·exact .inl rfl
 ·exact .inr (.inl rfl)
 ·exact .inr (.inr ⟨m, rfl, hm, x.alive ha⟩)
theorem CanApp.next {n0 : Nat} {h : Heap} {k : Tok} (hk : CanApp n0 h k) (ho : okHeap h = true) (hn : n0 ≤ h.tn) : CanApp n0 (h.app k) (.free h.tn) :=
 .inr (.inr ⟨h.tn, rfl, hn, app_alive ho (hk.mono (Nat.zero_le _))⟩)

theorem append_rows {P : Program} {t0 t1 elem : TypeId} {i : TypeInfo} {h : Heap} {k k' : Tok} {sz n0 : Nat} {es new : List (List AV)} (h0 : P.underlying t0 = some (.slice elem)) (h1 : P.underlying t1 = some (.slice elem))
 (hi : P.info? elem = some i) (hsz : 0 < i.size) (hz : (i.zero.map fun z => z.cells.size) = some i.size) (hnew : new ≠ []) (hb : (es.length + new.length) * i.bytes ≤ 140737488355328) (hl : es.length + new.length ≤ 9223372036854775807)
 (hs : sz = i.size ∨ (es = [] ∧ k = .nil)) (hk : CanApp n0 h k) : appendEv P h #[t0, t1] (.list k sz es) (.list k' i.size new) = some (.list (.free h.tn) i.size (es ++ new), h.app k) := by
 unfold appendEv
 simp only [List.getElem?_toArray, List.getElem?_cons_zero, List.getElem?_cons_succ, Option.bind_some, h0, h1, hi]
 have hr : newRows h i.size (.list k' i.size new) = some new := by
  unfold newRows rowsOf
  simp
 simp only [hr]
 rw [if_pos ⟨hsz, hz⟩, if_pos (hs.imp_right fun q => q.1), if_neg hnew, if_pos ⟨hb, hl⟩]
 rcases hk with rfl | rfl | ⟨m, rfl, -, ha⟩
 ·rfl
 ·rfl
 ·have hs : sz = i.size := by
   rcases hs with hs | ⟨-, hs⟩
   ·exact hs
   ·cases hs
  simp only [ha, hs, decide_true, Bool.and_self, if_true]
  rfl
end Go.AE
end

section
namespace Go.AE
section
variable {H : Type} {P : Program} {t e : TypeId} {cs xs : List AV} {x : AV} {d : DataW H}

theorem Has.str_inv (h : Has P t cs d) (hu : P.underlying t = some .string) : ∃ l : List UInt8, cs = [.v (.string (bs l))] ∧ l.length ≤ maxLen := by
 cases h with
 | str hu' s hs => exact ⟨s.data.toList, by rw [← bs_of], by simpa using hs⟩
 | bool hu' => rw [hu] at hu'; cases hu'
 | int hu' => rw [hu] at hu'; cases hu'
 | none hu' => rw [hu] at hu'; cases hu'
 | list hu' => rw [hu] at hu'; cases hu'
 | struct hu' => rw [hu] at hu'; cases hu'
 | array hu' => rw [hu] at hu'; cases hu'
theorem Has.int_inv {k : IntKind} (h : Has P t cs d) (hu : P.underlying t = some (.int k)) : ∃ n : Int, cs = [.v (.int k n)] ∧ k.min ≤ n ∧ n ≤ k.max := by
 cases h with
 | int hu' n hn =>
  rw [hu] at hu'; injection hu' with hu'; injection hu' with hu'; subst hu'
  exact ⟨n, rfl, by simpa [Lit.wf] using hn⟩
 | bool hu' => rw [hu] at hu'; cases hu'
 | str hu' => rw [hu] at hu'; cases hu'
 | none hu' => rw [hu] at hu'; cases hu'
 | list hu' => rw [hu] at hu'; cases hu'
 | struct hu' => rw [hu] at hu'; cases hu'
 | array hu' => rw [hu] at hu'; cases hu'
theorem Has.i64_inv (h : Has P t cs d) (hu : P.underlying t = some (.int .i64)) : ∃ n : Int, cs = [.v (.int .i64 n)] ∧ -9223372036854775808 ≤ n ∧ n ≤ 9223372036854775807 := by
 obtain ⟨n, h1, h2, h3⟩ := h.int_inv hu
 simp [IntKind.min, IntKind.max, IntKind.signed, IntKind.bits] at h2 h3
 exact ⟨n, h1, h2, h3⟩
theorem Has.struct_inv {fs : Array Field} {tys : List (TypeId × Nat)} (h : Has P t xs d) (hu : P.underlying t = some (.struct fs)) (hf : (fs.toList.map fun f => (f.type, f.offset)) = tys) :
 xs.length = P.cellsOf t ∧ ∀ (i : Nat) (u : TypeId) (o : Nat), tys[i]? = some (u, o) → ∃ d : DataW H, Has P u ((xs.drop o).take (P.cellsOf u)) d := by
 cases h with
 | bool hu' => rw [hu] at hu'; cases hu'
 | int hu' => rw [hu] at hu'; cases hu'
 | str hu' => rw [hu] at hu'; cases hu'
 | none hu' => rw [hu] at hu'; cases hu'
 | list hu' => rw [hu] at hu'; cases hu'
 | array hu' => rw [hu] at hu'; cases hu'
 | struct hu' xs ds hl hd hff =>
  rw [hu] at hu'; injection hu' with hu'; injection hu' with hu'; subst hu'
  refine ⟨hl, fun i u o ho => ?_⟩
  rw [← hf, List.getElem?_map] at ho
  cases hq : fs.toList[i]? with
  | none => rw [hq] at ho; cases ho
  | some f =>
   rw [hq] at ho
   simp only [Option.map_some, Option.some.injEq, Prod.mk.injEq] at ho
   have hi : i < ds.length := by
    have := (List.getElem?_eq_some_iff.1 hq).1
    simp at this
    omega
   have := hff i f ds[i] (by rw [← Array.getElem?_toList]; exact hq) (List.getElem?_eq_getElem hi)
   rw [ho.1, ho.2] at this
   exact ⟨_, this⟩

theorem HasV.plain (h : HasV P t x d) (hu : ∀ fs, P.underlying t ≠ some (.struct fs)) (hu2 : ∀ n e, P.underlying t ≠ some (.array n e)) : Has P t [x] d := by
 unfold HasV at h
 split at h
 ·rename_i h1; exact absurd h1 (hu _)
 ·rename_i h1; exact absurd h1 (hu2 _ _)
 ·exact h
theorem HasV.str_inv (h : HasV P t x d) (hu : P.underlying t = some .string) : ∃ l : List UInt8, x = .v (.string (bs l)) ∧ l.length ≤ maxLen := by
 obtain ⟨l, h1, h2⟩ := (h.plain (fun _ hq => by rw [hu] at hq; cases hq) (fun _ _ hq => by rw [hu] at hq; cases hq)).str_inv hu
 injection h1 with h1
 exact ⟨l, h1, h2⟩
theorem HasV.i64_inv (h : HasV P t x d) (hu : P.underlying t = some (.int .i64)) : ∃ n : Int, x = .v (.int .i64 n) ∧ -9223372036854775808 ≤ n ∧ n ≤ 9223372036854775807 := by
 obtain ⟨l, h1, h2⟩ := (h.plain (fun _ hq => by rw [hu] at hq; cases hq) (fun _ _ hq => by rw [hu] at hq; cases hq)).i64_inv hu
 injection h1 with h1
 exact ⟨l, h1, h2⟩
theorem HasV.struct_inv {fs : Array Field} (h : HasV P t x d) (hu : P.underlying t = some (.struct fs)) : ∃ xs, x = .agg xs ∧ Has P t xs d := by
 unfold HasV at h
 rw [hu] at h
 exact h
def structIs (P : Program) (t : TypeId) (tys : List (TypeId × Nat)) : Bool :=
 match P.underlying t with
 | some (.struct fs) => decide ((fs.toList.map fun f => (f.type, f.offset)) = tys)
 | _ => false
theorem structIs_of {tys : List (TypeId × Nat)} (h : structIs P t tys = true) : ∃ fs : Array Field, P.underlying t = some (.struct fs) ∧ (fs.toList.map fun f => (f.type, f.offset)) = tys := by
 unfold structIs at h
 split at h
 ·rename_i fs hu; exact ⟨fs, hu, by simpa using h⟩
 ·cases h
theorem HasV.fields {tys : List (TypeId × Nat)} (h : HasV P t x d) (hs : structIs P t tys = true) : ∃ xs, x = .agg xs ∧ xs.length = P.cellsOf t ∧ ∀ (i : Nat) (u : TypeId) (o : Nat), tys[i]? = some (u, o) → ∃ d : DataW H, Has P u ((xs.drop o).take (P.cellsOf u)) d := by
 obtain ⟨fs, hu, hf⟩ := structIs_of hs
 obtain ⟨xs, h1, h2⟩ := h.struct_inv hu
 exact ⟨xs, h1, h2.struct_inv hu hf⟩
theorem Has.fields {tys : List (TypeId × Nat)} (h : Has P t xs d) (hs : structIs P t tys = true) : xs.length = P.cellsOf t ∧ ∀ (i : Nat) (u : TypeId) (o : Nat), tys[i]? = some (u, o) → ∃ d : DataW H, Has P u ((xs.drop o).take (P.cellsOf u)) d := by
 obtain ⟨fs, hu, hf⟩ := structIs_of hs
 exact h.struct_inv hu hf
theorem len2 {α : Type} {l : List α} (h : l.length = 2) : ∃ a b, l = [a, b] := by
 match l, h with
 | [a, b], _ => exact ⟨a, b, rfl⟩
theorem len3 {α : Type} {l : List α} (h : l.length = 3) : ∃ a b c, l = [a, b, c] := by
 match l, h with
 | [a, b, c], _ => exact ⟨a, b, c, rfl⟩
theorem len4 {α : Type} {l : List α} (h : l.length = 4) : ∃ a b c d, l = [a, b, c, d] := by
 match l, h with
 | [a, b, c, d], _ => exact ⟨a, b, c, d, rfl⟩
end
end Go.AE
end

section
namespace Go.AE
theorem HasAll.cons_inv {H : Type} {P : Program} {t : TypeId} {ts : List TypeId} {xs : List AV} {ds : List (DataW H)} (h : HasAll P (t :: ts) xs ds) : ∃ x xs' d ds', xs = x :: xs' ∧ ds = d :: ds' ∧ HasV P t x d ∧ HasAll P ts xs' ds' := by
 cases xs with
 | nil => cases ds <;> exact h.elim
 | cons x xs =>
  cases ds with
  | nil => exact h.elim
  | cons d ds => exact ⟨x, xs, d, ds, rfl, rfl, h.1, h.2⟩
theorem HasAll.nil_inv {H : Type} {P : Program} {xs : List AV} {ds : List (DataW H)} (h : HasAll P [] xs ds) : xs = [] := by
 cases xs with
 | nil => rfl
 | cons x xs => cases ds <;> exact h.elim
section
variable {P : Program} {t : TypeId} {x y : Operand}
theorem pure_und {d : TypeDesc} (hu : P.underlying t = some d) : pureRun P (underlying t) = some d := by
 unfold underlying
 simp only [pureRun_bind]
 show (some P).bind _ = _
 simp only [Option.bind_some, hu]
 rfl
theorem bin_nil_neq {v : Value} {ms : Array (String × TypeId)} (hu : P.underlying t = some (.interface ms)) : binEv P .neq t x (.const v) (.v .nilIface) (.v .nilIface) = some (.v (.bool false)) := by
 have h1 : binEv P .neq t x (.const v) (.v .nilIface) (.v .nilIface) = (pureRun P (do eqGuard .neq t x (.const v) .nilIface .nilIface; binOp .neq t .nilIface .nilIface)).bind scalarV := rfl
 have h2 : pureRun P (eqGuard .neq t x (.const v) .nilIface .nilIface) = some () := by cases x <;> rfl
 have h3 : pureRun P (Op.equal t .nilIface .nilIface) = some true := by
  unfold Op.equal Op.maxDepth Op.equalIn
  rw [pureRun_bind, pure_und hu]
  rfl
 have h4 : pureRun P (binOp .neq t .nilIface .nilIface) = some (.bool false) := by
  show pureRun P (do pure (Value.bool (!(← Op.equal t .nilIface .nilIface)))) = _
  rw [pureRun_bind, h3]
  rfl
 rw [h1, pureRun_bind, h2, Option.bind_some, h4]
 rfl
theorem bin_iface_neq {u : TypeId} {z : AV} (hi : isIface P t = some true) : binEv P .neq t x y (.iface u z) (.v .nilIface) = some (.v (.bool true)) := by
 show (if isIface P t = some true then boolEq .neq false else none) = _
 rw [if_pos hi]
 rfl
end
end Go.AE
end

section
namespace Go.AE
section
variable {h : Heap} {cs : List AV} {b c : Nat} {k : Tok}
theorem get_push_last : (h.push cs).boxes[h.boxes.length]? = some cs := push_last h cs
theorem get_push_eq (hc : c = h.boxes.length) : (h.push cs).boxes[c]? = some cs := by subst hc; exact push_last h cs
theorem get_push_ne (hc : c ≠ h.boxes.length) : (h.push cs).boxes[c]? = h.boxes[c]? := by
 unfold Heap.push
 simp only [List.getElem?_append]
 split
 ·rfl
 ·rename_i h1
  rw [List.getElem?_eq_none (by simp; omega), List.getElem?_eq_none (by omega)]
theorem get_put_eq (hb : b < h.boxes.length) : (h.put b cs).boxes[b]? = some cs := put_this hb
theorem get_put_ne (hc : c ≠ b) : (h.put b cs).boxes[c]? = h.boxes[c]? := put_other hc
theorem get_app : (h.app k).boxes[c]? = h.boxes[c]? := by rw [app_boxes]
theorem len_app : (h.app k).boxes.length = h.boxes.length := by rw [app_boxes]
end
theorem canApp_push {n0 : Nat} {h : Heap} {cs : List AV} {k : Tok} : CanApp n0 (h.push cs) k = CanApp n0 h k := rfl
theorem canApp_put {n0 b : Nat} {h : Heap} {cs : List AV} {k : Tok} : CanApp n0 (h.put b cs) k = CanApp n0 h k := rfl
theorem Ext.put_new {h h' : Heap} (x : Ext h h') {b : Nat} (hb : h.boxes.length ≤ b) (cs : List AV) : Ext h (h'.put b cs) := by
 refine ⟨fun c ds hc => ?_, x.loop, x.tn, x.dead, x.ok⟩
 have hlt : c < h.boxes.length := (List.getElem?_eq_some_iff.1 hc).1
 rw [put_other (by omega)]
 exact x.box c ds hc
section
variable {P : Program} {G : Nat → Option (List AV)} {h : Heap} {t : TypeId} {b off n : Nat} {cs : List AV}
theorem store_v {z : Value} (hs : sizeB P t = some 1) (hb : h.boxes[b]? = some cs) (hl : off + 1 ≤ cs.length) : storeEv P h t (.ptr (.box b) off) (.v z) = some (h.put b (splice cs off [.v z])) := store_box rfl hs hb rfl hl
theorem store_l {k : Tok} {sz : Nat} {es : List (List AV)} (hs : sizeB P t = some 1) (hb : h.boxes[b]? = some cs) (hl : off + 1 ≤ cs.length) : storeEv P h t (.ptr (.box b) off) (.list k sz es) = some (h.put b (splice cs off [.list k sz es])) := store_box rfl hs hb rfl hl
theorem slice_str {l : List UInt8} {k k' : IntKind} {lo hi : Int} (hu : P.underlying t = some .string) (h0 : 0 ≤ lo) (h1 : lo ≤ hi) (h2 : hi ≤ l.length) :
 sliceEv P t (.v (.string (bs l))) (some (.v (.int k lo))) (some (.v (.int k' hi))) none = some (.v (.string (bs ((l.take hi.toNat).drop lo.toNat)))) := by
 unfold sliceEv
 simp only [Option.isSome_none, Bool.false_and, Bool.false_eq_true, if_false, hu, bs_size]
 have e1 : boundOf l.length (some (AV.v (.int k' hi))) l.length = some hi.toNat := by
  unfold boundOf; simp only; rw [if_pos ⟨by omega, h2⟩]
 have e2 : boundOf hi.toNat (some (AV.v (.int k lo))) 0 = some lo.toNat := by
  unfold boundOf; simp only; rw [if_pos ⟨h0, by omega⟩]
 simp only [e1, e2, bs_extract]
theorem slice_str_from {l : List UInt8} {k : IntKind} {lo : Int} (hu : P.underlying t = some .string) (h0 : 0 ≤ lo) (h1 : lo ≤ l.length) :
 sliceEv P t (.v (.string (bs l))) (some (.v (.int k lo))) none none = some (.v (.string (bs (l.drop lo.toNat)))) := by
 unfold sliceEv
 simp only [Option.isSome_none, Bool.false_and, Bool.false_eq_true, if_false, hu, bs_size]
 have e1 : boundOf l.length none l.length = some l.length := rfl
 have e2 : boundOf l.length (some (AV.v (.int k lo))) 0 = some lo.toNat := by
  unfold boundOf; simp only; rw [if_pos ⟨h0, h1⟩]
 simp only [e1, e2, bs_extract, List.take_length]
theorem slice_str_to {l : List UInt8} {k' : IntKind} {hi : Int} (hu : P.underlying t = some .string) (h0 : 0 ≤ hi) (h2 : hi ≤ l.length) :
 sliceEv P t (.v (.string (bs l))) none (some (.v (.int k' hi))) none = some (.v (.string (bs (l.take hi.toNat)))) := by
 unfold sliceEv
 simp only [Option.isSome_none, Bool.false_and, Bool.false_eq_true, if_false, hu, bs_size]
 have e1 : boundOf l.length (some (AV.v (.int k' hi))) l.length = some hi.toNat := by
  unfold boundOf; simp only; rw [if_pos ⟨h0, h2⟩]
 have e2 : boundOf hi.toNat none 0 = some 0 := rfl
 simp only [e1, e2, bs_extract, List.drop_zero]
theorem nil_ptr {r : Ref} : nilCheckEv (.ptr r off) = some (.ptr r off) := rfl
theorem cell30 {a x y : AV} : (([a, x, y] : List AV).drop 0).head? = some a := rfl
theorem cell31 {a x y : AV} : (([a, x, y] : List AV).drop 1).head? = some x := rfl
theorem cell32 {a x y : AV} : (([a, x, y] : List AV).drop 2).head? = some y := rfl
theorem put31 {a x y z : AV} : splice [a, x, y] 1 [z] = [a, z, y] := rfl
theorem put32 {a x y z : AV} : splice [a, x, y] 2 [z] = [a, x, z] := rfl
end
end Go.AE
end

section
namespace Go.AE
def Env.dfr (e : Env) (d : FuncId × List AV) : Env := { e with defers := d :: e.defers }
def Env.pn (e : Env) (p : Option (AV × Bool)) : Env := { e with pan := p }
section
variable {e : Env} {d : FuncId × List AV} {p : Option (AV × Bool)} {t : Nat}
theorem dfr_get : (e.dfr d).get t = e.get t := rfl
theorem dfr_defers : (e.dfr d).defers = d :: e.defers := rfl
theorem dfr_pan : (e.dfr d).pan = e.pan := rfl
theorem dfr_round : (e.dfr d).round = e.round := rfl
theorem pn_get : (e.pn p).get t = e.get t := rfl
theorem pn_defers : (e.pn p).defers = e.defers := rfl
theorem pn_pan : (e.pn p).pan = p := rfl
theorem pn_round : (e.pn p).round = e.round := rfl
end
def DeferR (P : Program) (G : Nat → Option (List AV)) (R : Rec) (ops : Array Oper) (rest : List Oper) (d : Option Tmp) (args : List AV) (e : Env) (h : Heap) (Q : Xt → Env → Heap → Prop) (x : AV) : Prop :=
 match x with
 | .func (.func g) first cap => RunL P G R ops rest ((e.dfr (g, first ++ args ++ cap)).put d (.tuple [])) h Q
 | _ => False
def RecoverR (P : Program) (G : Nat → Option (List AV)) (R : Rec) (ops : Array Oper) (rest : List Oper) (d : Option Tmp) (e : Env) (h : Heap) (Q : Xt → Env → Heap → Prop) (p : Option (AV × Bool)) : Prop :=
 match p with
 | some (x, false) => RunL P G R ops rest ((e.pn (some (x, true))).put d x) h Q
 | _ => RunL P G R ops rest (e.put d (.v .nilIface)) h Q
section
variable {P : Program} {G : Nat → Option (List AV)} {R : Rec} {ops : Array Oper} {rest : List Oper} {e : Env} {h : Heap} {Q : Xt → Env → Heap → Prop} {d : Option Tmp} {ty : TypeId} {pos : String} {af : Array Edge}
theorem rl_defer {f : Operand} {args : Array Operand} {ts : Array TypeId} (hr : e.round = none) : RunL P G R ops (⟨d, .defer { callee := .value f, args, argTypes := ts }, ty, pos, af, none⟩ :: rest) e h Q = DeferR P G R ops rest d (args.toList.map e.eval) e h Q (e.eval f) := by
 rw [runL_defer hr]
 generalize e.eval f = y
 rcases y with _ | _ | _ | _ | _ | _ | _ | _ | ⟨fn, a, b⟩ | _ | _
 case func => cases fn <;> rfl
 all_goals rfl
theorem defer_func {g : FuncId} {first cap args : List AV} : DeferR P G R ops rest d args e h Q (.func (.func g) first cap) = RunL P G R ops rest ((e.dfr (g, first ++ args ++ cap)).put d (.tuple [])) h Q := rfl
theorem rl_recover {args : Array Operand} {ts : Array TypeId} (hr : e.round = none) : RunL P G R ops (⟨d, .call { callee := .builtin .recover, args, argTypes := ts }, ty, pos, af, none⟩ :: rest) e h Q = RecoverR P G R ops rest d e h Q e.pan := by
 rw [runL_recover hr]
 rcases hp : e.pan with _ | ⟨x, b⟩
 ·rfl
 ·cases b <;> rfl
theorem recover_some {x : AV} : RecoverR P G R ops rest d e h Q (some (x, false)) = RunL P G R ops rest ((e.pn (some (x, true))).put d x) h Q := rfl
theorem recover_none : RecoverR P G R ops rest d e h Q none = RunL P G R ops rest (e.put d (.v .nilIface)) h Q := rfl
theorem unwind_calm {fn : Func} {g : FuncId} {args : List AV} {ds : List (FuncId × List AV)} {x : AV} {h' : Heap} (hc : R.dcall g args none h = some (.ret x, none, h')) : unwindEv P G R fn e ((g, args) :: ds) none h = unwindEv P G R fn e ds none h' := by
 rw [unwindEv, hc]
theorem unwind_saved {fn : Func} {g : FuncId} {args : List AV} {ds : List (FuncId × List AV)} {x y z : AV} {h' : Heap} (hc : R.dcall g args (some (y, false)) h = some (.ret x, some (z, true), h')) : unwindEv P G R fn e ((g, args) :: ds) (some (y, false)) h = unwindEv P G R fn e ds none h' := by
 rw [unwindEv, hc]
end
end Go.AE
end

section
namespace Go.AE
def endP (P : Program) (G : Nat → Option (List AV)) (R : Rec) (fn : Func) (Post : Res → Heap → Prop) : Xt → Env → Heap → Prop := fun o e h => ∃ r h', endQ P G R fn r h' o e h ∧ Post r h'
theorem endP_normal {P : Program} {G : Nat → Option (List AV)} {R : Rec} {fn : Func} {Post : Res → Heap → Prop} {e : Env} {h : Heap} : endP P G R fn Post .normal e h = ∃ r h', unwindEv P G R fn e e.defers none h = some (r, h') ∧ Post r h' := rfl
theorem endP_ret {P : Program} {G : Nat → Option (List AV)} {R : Rec} {fn : Func} {Post : Res → Heap → Prop} {e : Env} {h : Heap} : endP P G R fn Post .ret e h = ∃ r h', unwindEv P G R fn e e.defers none h = some (r, h') ∧ Post r h' := rfl
theorem endP_panic {P : Program} {G : Nat → Option (List AV)} {R : Rec} {fn : Func} {Post : Res → Heap → Prop} {e : Env} {h : Heap} {x : AV} : endP P G R fn Post (.panic x) e h = ∃ r h', unwindEv P G R fn e e.defers (some (x, false)) h = some (r, h') ∧ Post r h' := rfl
theorem call_post {P : Program} {G : Nat → Option (List AV)} {prims : FuncId → Option (List AV → Heap → Option (AV × Heap))} {g : FuncId} {fn : Func} {body : Code} {args : List AV} {h : Heap} {Post : Res → Heap → Prop} (hp : prims g = none) (hfn : P.funcs[g]? = some fn) (hb : fn.body = some body)
 (hr : Run (whole P G prims) body (Env.start args none) h (endP P G (whole P G prims) fn Post)) : ∃ r h', (whole P G prims).call g args h = some (r, h') ∧ Post r h' := by
 obtain ⟨o, e1, h1, h2, r, h', h3, h4⟩ := hr
 exact ⟨r, h', call_of_run hp hfn hb ⟨o, e1, h1, h2, h3⟩, h4⟩
theorem answerP {x : AV} {h : Heap} {Post : Res → Heap → Prop} (hp : Post (.ret x) h) : ∃ r h', (some (Res.ret x, h) : Option (Res × Heap)) = some (r, h') ∧ Post r h' := ⟨_, _, rfl, hp⟩
end Go.AE
end

section
namespace Go.AE
end Go.AE
end

section
namespace Go.AE
open Go.RowKit Go.WideShapes Go.ChangeShapes

def okLoc (P : Program) (S : List TypeId) (t : TypeId) : Bool :=
 match P.underlying t with
 | some .bool | some (.int _) | some .string => true
 | some (.slice e) => S.contains e && decide (0 < P.cellsOf e)
 | some (.struct fs) => tiles P 0 fs.toList (P.cellsOf t) && fs.toList.all fun f => S.contains f.type
 | some (.array m e) => Nat.beq (P.cellsOf t) (m * P.cellsOf e) && S.contains e
 | _ => false
def okSet (P : Program) (S : List TypeId) : Bool := S.all (okLoc P S)
section
variable {H : Type} {enc : TypeId × Value → H} {P : Program} {W : World}
theorem trod_hasS {S : List TypeId} (hS : okSet P S = true) : ∀ (fuel : Nat) (t : TypeId) (cs : List Value) (x : DataW H × List MemPlace), DataW.trod enc P W 0 (fun _ => true) true fuel t cs = some x → S.contains t = true →
 ∃ xs, VsRel (Know.init W) xs cs ∧ xs.all AV.isCell = true ∧ Has P t xs x.1 := by
 intro fuel
 induction fuel with
 | zero => intro t cs x h; simp [DataW.trod] at h
 | succ fuel ih =>
  intro t cs x h hin
  have hok : okLoc P S t = true := List.all_eq_true.1 hS t (by simpa using hin)
  unfold okLoc at hok
  split at hok
  ·rename_i hu
   obtain ⟨b, rfl, rfl⟩ := DataW.trod_bool hu h
   exact ⟨_, .cons _ _ _ _ (.v _ rfl) .nil, rfl, .bool hu b⟩
  ·rename_i k hu
   obtain ⟨m, rfl, rfl, hw⟩ := DataW.trod_int hu h
   exact ⟨_, .cons _ _ _ _ (.v _ rfl) .nil, rfl, .int hu m hw⟩
  ·rename_i hu
   obtain ⟨s, rfl, rfl, hs⟩ := DataW.trod_string hu h
   exact ⟨_, .cons _ _ _ _ (.v _ rfl) .nil, rfl, .str hu s hs⟩
  ·rename_i e hu
   rw [Bool.and_eq_true, decide_eq_true_eq] at hok
   obtain ⟨hoke, hpos⟩ := hok
   rcases DataW.trod_slice hu h with ⟨rfl, rfl⟩ | ⟨a, len, cap, elems, rest, m, hm, rfl, rfl, -, hlc, hcm, hel, helem, hspare, -⟩
   ·exact ⟨_, .cons _ _ _ _ (.nil _) .nil, rfl, .none hu⟩
   ·have hm : m = fuel := by omega
    subst hm
    obtain ⟨hrl, hrest⟩ := hspare rfl
    have elemAt : ∀ i, i < len → ∃ vs r y, W.cells? 0 (a.add (i * P.cellsOf e)) (P.cellsOf e) = some vs ∧ elems[i]? = some y ∧ VsRel (Know.init W) r vs ∧ r.all AV.isCell = true ∧ Has P e r y.1 := by
     intro i hi
     have h1 := helem i hi
     rw [List.getElem?_eq_getElem (by omega : i < elems.length)] at h1
     cases hc : W.cells? 0 (a.add (i * P.cellsOf e)) (P.cellsOf e) with
     | none => rw [hc] at h1; cases h1
     | some vs =>
      rw [hc] at h1
      obtain ⟨r, g1, g2, g3⟩ := ih e vs _ h1 hoke
      exact ⟨vs, r, _, rfl, List.getElem?_eq_getElem _, g1, g2, g3⟩
    by_cases hcap : cap = 0
    ·have hlen : len = 0 := by omega
     subst hcap; subst hlen
     have he : elems = [] := List.eq_nil_of_length_eq_zero hel
     subst he
     refine ⟨[.list .tight (P.cellsOf e) []], .cons _ _ _ _ (.none0 _ _) .nil, rfl, ?_⟩
     show Has P t _ (.slice [] (rest.map (·.1)))
     exact .list hu .tight [] [] (rest.map (·.1)) (.inr ⟨rfl, rfl⟩) (Nat.zero_le _) rfl (by simp) (by simp)
    ·-- the block is there
     have hspot : a.spot = none := by
      have : ∃ vs, W.cells? 0 (a.add 0) (P.cellsOf e) = some vs := by
       rcases Nat.eq_zero_or_pos len with h0 | h0
       ·have h1 := hrest 0 (by omega)
        rw [List.getElem?_eq_getElem (by omega : 0 < rest.length)] at h1
        cases hc : W.cells? 0 (a.add ((len + 0) * P.cellsOf e)) (P.cellsOf e) with
        | none => rw [hc] at h1; cases h1
        | some vs => rw [h0] at hc; exact ⟨vs, by simpa using hc⟩
       ·obtain ⟨vs, _, _, hc, _⟩ := elemAt 0 h0
        exact ⟨vs, by simpa using hc⟩
      obtain ⟨vs, hvs⟩ := this
      obtain ⟨hl, hg⟩ := cells_read hvs
      have h0 := hg 0 hpos
      rw [List.getElem?_eq_getElem (by omega : 0 < vs.length)] at h0
      have : (a.add 0).add 0 = a := by simp [Addr.add]
      rw [this] at h0
      exact spot_none h0
     obtain ⟨g, off, sp⟩ := a
     simp only at hspot
     subst hspot
     have rows : ∀ k, k ≤ len → ∃ es : List (List AV), es.length = k ∧ (∀ r ∈ es, r.length = P.cellsOf e ∧ r.all AV.isCell = true) ∧ (∀ (i : Nat) (r : List AV) (d : DataW H), es[i]? = some r → (elems.map (·.1))[i]? = some d → Has P e r d) ∧
      ∃ cells : List Value, cells.length = k * P.cellsOf e ∧ VsRel (Know.init W) es.flatten cells ∧ ∀ (j : Nat) (c : Value), cells[j]? = some c → W.cell? ⟨g, off + j, none⟩ = some c := by
      intro k
      induction k with
      | zero => intro _; exact ⟨[], rfl, by simp, by simp, [], by simp, .nil, by simp⟩
      | succ k ihk =>
       intro hk
       obtain ⟨es, e1, e2, e3, cells, c1, c2, c3⟩ := ihk (by omega)
       obtain ⟨vs, r, y, hc, hy, g1, g2, g3⟩ := elemAt k (by omega)
       obtain ⟨hvl, hvg⟩ := cells_read hc
       refine ⟨es ++ [r], by simp [e1], fun r' hr' => ?_, fun i r' d hi hd => ?_, cells ++ vs, by simp [c1, hvl, Nat.add_mul], ?_, fun j c hj => ?_⟩
       ·rcases List.mem_append.1 hr' with h1 | h1
        ·exact e2 r' h1
        ·simp only [List.mem_singleton] at h1
         subst h1
         exact ⟨by rw [g1.length, hvl], g2⟩
       ·rcases getElem?_snoc hi with h1 | ⟨h1, rfl⟩
        ·exact e3 i r' d h1 hd
        ·rw [h1, e1, List.getElem?_map, hy] at hd
         simp only [Option.map_some, Option.some.injEq] at hd
         subst hd
         exact g3
       ·rw [List.flatten_append]
        simpa using c2.append g1
       ·rcases Nat.lt_or_ge j cells.length with h1 | h1
        ·rw [List.getElem?_append_left h1] at hj
         exact c3 j c hj
        ·rw [List.getElem?_append_right h1] at hj
         have hjl : j - cells.length < P.cellsOf e := by
          have := (List.getElem?_eq_some_iff.1 hj).1
          omega
         have h2 := hvg _ hjl
         rw [hj, Addr.add_none, Addr.add_none] at h2
         rw [show off + j = off + k * P.cellsOf e + (j - cells.length) by omega]
         exact h2
     obtain ⟨es, e1, e2, e3, cells, c1, c2, c3⟩ := rows len (Nat.le_refl _)
     have hall : es.flatten.all AV.isCell = true := by
      rw [List.all_flatten]
      simp only [List.all_eq_true]
      intro r hr
      have := (e2 r hr).2
      simpa using this
     refine ⟨[.list .held (P.cellsOf e) es], .cons _ _ _ _ (.list .held (P.cellsOf e) es g off len cap cells e1.symm (fun r hr => (e2 r hr).1) c2 c3 ⟨hlc, trivial⟩ hall) .nil, rfl, ?_⟩
     exact .list hu .held es (elems.map (·.1)) (rest.map (·.1)) (.inl rfl) (by omega) (by simp [e1, hel]) e3 (fun r hr => (e2 r hr).1)
  ·rename_i fs hu
   rw [Bool.and_eq_true, List.all_eq_true] at hok
   obtain ⟨htile, hall⟩ := hok
   obtain ⟨ys, m, hm, rfl, hcl, hyl, hat⟩ := DataW.trod_struct hu h
   have hm : m = fuel := by omega
   subst hm
   have fld : ∀ (i : Nat) (f : Field), fs[i]? = some f → ∃ r y, ys[i]? = some y ∧ VsRel (Know.init W) r ((cs.drop f.offset).take (P.cellsOf f.type)) ∧ r.all AV.isCell = true ∧ Has P f.type r y.1 := by
    intro i f hf
    have h1 := hat i f hf
    have hlt : i < ys.length := by rw [hyl]; exact (Array.getElem?_eq_some_iff.1 hf).1
    rw [List.getElem?_eq_getElem hlt] at h1
    obtain ⟨r, g1, g2, g3⟩ := ih f.type _ _ h1 (hall f (by
     obtain ⟨hi, rfl⟩ := Array.getElem?_eq_some_iff.1 hf
     exact Array.mem_toList_iff.2 (Array.getElem_mem hi)))
    exact ⟨r, _, List.getElem?_eq_getElem hlt, g1, g2, g3⟩
   have build : ∀ (l : List Field) (i off : Nat), (∀ j f, l[j]? = some f → fs[i + j]? = some f) → tiles P off l (P.cellsOf t) = true → off ≤ cs.length →
    ∃ xs, VsRel (Know.init W) xs (cs.drop off) ∧ xs.all AV.isCell = true ∧ ∀ j f, l[j]? = some f → off ≤ f.offset ∧ ∃ r y, ys[i + j]? = some y ∧ (xs.drop (f.offset - off)).take (P.cellsOf f.type) = r ∧ Has P f.type r y.1 := by
    intro l
    induction l with
    | nil =>
     intro i off _ ht _
     have hoff : off = P.cellsOf t := Nat.eq_of_beq_eq_true ht
     refine ⟨[], ?_, rfl, fun j f hj => by simp at hj⟩
     rw [hoff, ← hcl, List.drop_length]
     exact .nil
    | cons f l ihl =>
     intro i off hl ht hle
     rw [tiles, Bool.and_eq_true] at ht
     have ho : f.offset = off := Nat.eq_of_beq_eq_true ht.1
     obtain ⟨r, y, hy, g1, g2, g3⟩ := fld i f (by simpa using hl 0 f rfl)
     have hlen2 : off + P.cellsOf f.type ≤ cs.length := by
      rw [hcl]
      have : ∀ (l : List Field) (o : Nat), tiles P o l (P.cellsOf t) = true → o ≤ P.cellsOf t := by
       intro l
       induction l with
       | nil => intro o h; exact Nat.le_of_eq (Nat.eq_of_beq_eq_true h)
       | cons f l ih => intro o h; rw [tiles, Bool.and_eq_true] at h; exact Nat.le_trans (Nat.le_add_right _ _) (ih _ h.2)
      exact this l _ ht.2
     obtain ⟨xs, x1, x2, x3⟩ := ihl (i + 1) (off + P.cellsOf f.type) (fun j f' hj => by
      have := hl (j + 1) f' (by simpa using hj)
      rwa [show i + (j + 1) = i + 1 + j by omega] at this) ht.2 hlen2
     rw [ho] at g1
     have hrl : r.length = P.cellsOf f.type := by rw [g1.length]; simp; omega
     refine ⟨r ++ xs, ?_, by rw [List.all_append, g2, x2]; rfl, fun j f' hj => ?_⟩
     ·have := g1.append x1
      rw [← List.drop_drop, List.take_append_drop] at this
      exact this
     ·cases j with
      | zero =>
       simp only [List.getElem?_cons_zero, Option.some.injEq] at hj
       subst hj
       refine ⟨by omega, r, y, hy, ?_, g3⟩
       rw [ho, Nat.sub_self, List.drop_zero, ← hrl, List.take_left]
      | succ j =>
       obtain ⟨hge, r', y', hy', hr', hh⟩ := x3 j f' (by simpa using hj)
       refine ⟨by omega, r', y', by rw [show i + (j + 1) = i + 1 + j by omega]; exact hy', ?_, hh⟩
       rw [show f'.offset - off = r.length + (f'.offset - (off + P.cellsOf f.type)) by omega, ← List.drop_drop, List.drop_left]
       exact hr'
   obtain ⟨xs, x1, x2, x3⟩ := build fs.toList 0 0 (fun j f hj => by simpa using hj) htile (Nat.zero_le _)
   rw [List.drop_zero] at x1
   refine ⟨xs, x1, x2, .struct hu xs (ys.map (·.1)) (by rw [x1.length, hcl]) (by simp [hyl]) fun i f d hf hd => ?_⟩
   obtain ⟨-, r, y, hy, hr, hh⟩ := x3 i f (by simpa using hf)
   rw [Nat.zero_add] at hy
   rw [List.getElem?_map, hy] at hd
   simp only [Option.map_some, Option.some.injEq] at hd
   subst hd
   rw [Nat.sub_zero] at hr
   rw [hr]; exact hh
  ·rename_i m e hu
   rw [Bool.and_eq_true] at hok
   have hsz : P.cellsOf t = m * P.cellsOf e := Nat.eq_of_beq_eq_true hok.1
   obtain ⟨ys, fu, hfu, rfl, hcl, hyl, hat⟩ := DataW.trod_array hu h
   have hfu : fu = fuel := by omega
   subst hfu
   have rows : ∀ k, k ≤ m → ∃ xs, VsRel (Know.init W) xs (cs.take (k * P.cellsOf e)) ∧ xs.all AV.isCell = true ∧ ∀ i, i < k → ∃ y, ys[i]? = some y ∧ Has P e ((xs.drop (i * P.cellsOf e)).take (P.cellsOf e)) y.1 := by
    intro k
    induction k with
    | zero => intro _; exact ⟨[], by simp; exact .nil, rfl, fun i hi => absurd hi (Nat.not_lt_zero i)⟩
    | succ k ihk =>
     intro hk
     obtain ⟨xs, x1, x2, x3⟩ := ihk (by omega)
     have h1 := hat k (by omega)
     rw [List.getElem?_eq_getElem (by omega : k < ys.length)] at h1
     obtain ⟨r, g1, g2, g3⟩ := ih e _ _ h1 hok.2
     have hlen : (k + 1) * P.cellsOf e ≤ cs.length := by rw [hcl, hsz]; exact Nat.mul_le_mul_right _ hk
     have hxl : xs.length = k * P.cellsOf e := by rw [x1.length, List.length_take]; rw [Nat.add_mul] at hlen; omega
     have hrl : r.length = P.cellsOf e := by rw [g1.length]; simp; rw [Nat.add_mul] at hlen; omega
     refine ⟨xs ++ r, ?_, by rw [List.all_append, x2, g2]; rfl, fun i hi => ?_⟩
     ·have := x1.append g1
      rwa [← List.take_add, ← Nat.succ_mul] at this
     ·rcases Nat.lt_or_ge i k with h2 | h2
      ·obtain ⟨y, hy, hh⟩ := x3 i h2
       refine ⟨y, hy, ?_⟩
       have h3 : (i + 1) * P.cellsOf e ≤ k * P.cellsOf e := Nat.mul_le_mul_right _ h2
       rw [Nat.add_mul] at h3
       rw [List.drop_append_of_le_length (by omega), List.take_append_of_le_length (by simp; omega)]
       exact hh
      ·have : i = k := by omega
       subst this
       refine ⟨_, List.getElem?_eq_getElem (by omega), ?_⟩
       rw [← hxl, List.drop_left, ← hrl, List.take_length]
       exact g3
   obtain ⟨xs, x1, x2, x3⟩ := rows m (Nat.le_refl _)
   rw [← hsz, ← hcl, List.take_length] at x1
   refine ⟨xs, x1, x2, .array hu xs (ys.map (·.1)) (by rw [x1.length, hcl]) (by simp [hyl]) fun i d hd => ?_⟩
   have hi : i < m := by
    have := (List.getElem?_eq_some_iff.1 hd).1
    simpa [hyl] using this
   obtain ⟨y, hy, hh⟩ := x3 i hi
   rw [List.getElem?_map, hy] at hd
   simp only [Option.map_some, Option.some.injEq] at hd
   subst hd
   exact hh
  ·cases hok
theorem arg_ofS {S : List TypeId} (hS : okSet P S = true) {t : TypeId} {v : Value} {d : DataW H} {p : List MemPlace} {base : Nat} (h : DataW.Trod enc P W 0 (fun _ => true) true t v d p) (hv : Value.okWide P W .any base t v) (hin : S.contains t = true) :
 ∃ x, VRel (Know.init W) x v ∧ HasV P t x d := by
 obtain ⟨fuel, hf⟩ := h
 obtain ⟨xs, h1, h2, h3⟩ := trod_hasS hS fuel t _ _ hf hin
 have single : ∀ c, v.cells.toList = [c] → v = c → (∀ cs, P.underlying t ≠ some (.struct cs)) → (∀ m e, P.underlying t ≠ some (.array m e)) → ∃ x, VRel (Know.init W) x v ∧ HasV P t x d := by
  intro c hc hvc hns hna
  rw [hc] at h1
  cases h1 with
  | cons x _ _ _ hx hs =>
   cases hs
   refine ⟨x, hvc ▸ hx, ?_⟩
   unfold HasV
   split
   ·rename_i hu; exact absurd hu (hns _)
   ·rename_i hu; exact absurd hu (hna _ _)
   ·exact h3
 have hok : okLoc P S t = true := List.all_eq_true.1 hS t (by simpa using hin)
 unfold okLoc at hok
 unfold Value.okWide at hv
 split at hok
 ·rename_i hu
  rw [hu] at hv
  simp only [Cell.okWide, Cell.ok, hu] at hv
  cases v <;> simp at hv
  exact single _ rfl rfl (by rw [hu]; simp) (by rw [hu]; simp)
 ·rename_i k hu
  rw [hu] at hv
  simp only [Cell.okWide, Cell.ok, hu] at hv
  cases v <;> simp at hv
  exact single _ rfl rfl (by rw [hu]; simp) (by rw [hu]; simp)
 ·rename_i hu
  rw [hu] at hv
  simp only [Cell.okWide, Cell.ok, hu] at hv
  cases v <;> simp at hv
  exact single _ rfl rfl (by rw [hu]; simp) (by rw [hu]; simp)
 ·rename_i e hu
  rw [hu] at hv
  simp only [Cell.okWide, Cell.ok, hu] at hv
  cases v <;> simp at hv
  exact single _ rfl rfl (by rw [hu]; simp) (by rw [hu]; simp)
 ·rename_i fs hu
  rw [hu] at hv
  obtain ⟨cs, rfl, -, -⟩ := hv
  exact ⟨.agg xs, .agg _ _ h1, by unfold HasV; rw [hu]; exact ⟨xs, rfl, h3⟩⟩
 ·rename_i m e hu
  rw [hu] at hv
  obtain ⟨cs, rfl, -, -⟩ := hv
  exact ⟨.agg xs, .agg _ _ h1, by unfold HasV; rw [hu]; exact ⟨xs, rfl, h3⟩⟩
 ·cases hok
theorem args_ofS {S : List TypeId} (hS : okSet P S = true) {base : Nat} : ∀ {ts : List TypeId} {vs : List Value} {ds : List (DataW H)} {p : List MemPlace}, DataW.TrodAll enc P W 0 (fun _ => true) true ts vs ds p →
 (∀ (j : Nat) t v, ts[j]? = some t → vs[j]? = some v → Value.okWide P W .any base t v) → (∀ t ∈ ts, S.contains t = true) → ∃ xs, VsRel (Know.init W) xs vs ∧ HasAll P ts xs ds := by
 intro ts
 induction ts with
 | nil =>
  intro vs ds p h _ _
  obtain ⟨rfl, rfl, rfl⟩ := trodAll_nil h
  exact ⟨[], .nil, trivial⟩
 | cons t ts ih =>
  intro vs ds p h hv hok
  obtain ⟨v, vs', d, ds', p1, q1, rfl, rfl, rfl, h1, h2⟩ := trodAll_cons h
  obtain ⟨x, g1, g2⟩ := arg_ofS hS h1 (hv 0 t v rfl rfl) (hok t List.mem_cons_self)
  obtain ⟨xs, g3, g4⟩ := ih h2 (fun j t v ht hv' => hv (j + 1) t v (by simpa using ht) (by simpa using hv')) (fun t ht => hok t (List.mem_cons_of_mem _ ht))
  exact ⟨x :: xs, .cons _ _ _ _ g1 g3, g2, g4⟩
structure LawFactsS (P : Program) (S : List TypeId) (f : FuncId) (fn : Func) (tb : TypeId) : Prop where
 func : P.funcs[f]? = some fn
 laid : laidOutB P = true
 set : okSet P S = true
 tys : ∀ t ∈ fn.params.toList, S.contains t = true ∧ P.readableRec t = true ∧ t < P.types.size
 res : fn.resultTypes = #[tb]
 bool : P.underlying tb = some .bool

variable {G : Nat → Option (List AV)} {prims : FuncId → Option (List AV → Heap → Option (AV × Heap))}

theorem law_contractS {S : List TypeId} (hp : Prog P) {f : FuncId} {fn : Func} {tb : TypeId} (F : LawFactsS P S f fn tb) {s : ChangeSpec} {apart fresh handsOn again : Bool} {base : Nat} {args : Array Value} {ds gs : List (DataW H)} {before : List MemPlace}
 (hvars : s.vars = []) (hspec : ∀ ds : List (DataW H), ds.length = fn.params.size → (s.fn H ds).results = [.lit (.bool true)] ∧ (s.fn H ds).args = ds ∧ (s.fn H ds).vars = [])
 (hval : ∀ (j : Nat) t v, fn.params[j]? = some t → args[j]? = some v → Value.okWide P W .any base t v)
 (hW : DataW.Whole enc P fn.params.toList s.vars apart W args.toList ds gs before)
 (hG : ∀ g cs, G g = some cs → ∃ cells, VsRel (Know.init W) cs cells ∧ ∀ (j : Nat) (c : Value), cells[j]? = some c → W.cell? ⟨g, j, none⟩ = some c)
 (hprim : ∀ g p, prims g = some p → PrimOk P G W g p)
 (hlaw : ∀ xs : List AV, HasAll P fn.params.toList xs ds → ∃ h', (whole P G prims).call f xs Heap.init = some (.ret (.v (.bool true)), h')) :
 Calls P f args W fun e W' => ∃ v, e = .returned v ∧ s.post enc P fn apart fresh handsOn again W args v W' := by
 have hW' := hW
 obtain ⟨p, q, hA, hV, hbef, hfz, hnd⟩ := hW
 have hV0 : DataW.TrodVars enc P W (fun _ => true) [] gs q := hvars ▸ hV
 obtain ⟨rfl, rfl⟩ := trodVars_none hV0
 rw [List.append_nil] at hbef
 subst hbef
 obtain ⟨xs, hxs, hall⟩ := args_ofS F.set hA (fun j t v ht hv => hval j t v (by simpa using ht) (by simpa using hv)) (fun t ht => (F.tys t ht).1)
 obtain ⟨h', hcall⟩ := hlaw xs hall
 have hsim : SimP P G W (Know.init W) Heap.init W := sim_init W hG
 obtain ⟨-, hc⟩ := (whole_sim hp hprim).call f xs Heap.init _ _ hcall
 intro cs
 obtain ⟨K', w', fr, le, s', hst, hfr, v, hx, hl⟩ := hc (Know.init W) W args hxs hsim cs
 have hv := hx.scalar_of.1
 subst hv
 have hb : Below W.heap.size W w' := by
  have := s'.old
  rw [le.base] at this
  exact this
 have hlen : ds.length = fn.params.size := by
  have : ∀ {ts : List TypeId} {xs : List AV} {ds : List (DataW H)}, HasAll P ts xs ds → ds.length = ts.length := by
   intro ts
   induction ts with
   | nil => intro xs ds h; cases xs <;> cases ds <;> simp [HasAll] at h ⊢
   | cons t ts ih => intro xs ds h; cases xs <;> cases ds <;> simp [HasAll] at h ⊢; exact ih h.2
  simpa using this hall
 obtain ⟨r1, r2, r3⟩ := hspec ds hlen
 refine ⟨.returned (.bool true), w', fr, ⟨_, rfl, ?_⟩, hst, hfr, hl⟩
 refine post_below (pa := before) (pv := []) hW' (fun b sp hd => ?_) (fun sp hsp => ?_) (fun sp _ => ?_) (by simp) hb (ok_one F.res rfl (okWide_bool_mk F.bool _))
 ·rw [F.res, List.append_nil, r1]
  exact trodAll_cons_mk (shut_bool F.bool _) trodAll_mk0
 ·rw [List.append_nil, r2]
  exact args_stay F.laid hA (fun t ht => (F.tys t ht).2) (fun x hx => hb.same (hW'.lt x hx)) hsp
 ·rw [hvars, List.append_nil, r3]
  exact rfl
end
end Go.AE
end

section
namespace Go.AE
section
variable {P : Program} {G : Nat → Option (List AV)} {prims : FuncId → Option (List AV → Heap → Option (AV × Heap))} {Q : Xt → Env → Heap → Prop} {e : Env} {h : Heap}

def Heap.loop (h : Heap) (r : LoopRec) : Heap := { h with loops := h.loops ++ [r] }
def Heap.done (h : Heap) (l : Nat) (r : LoopRec) : Heap := { h with loops := h.loops.set l { r with state := .exhausted } }

def Heap.busy (h : Heap) (l : Nat) (r : LoopRec) : Heap := { h with loops := h.loops.set l { r with state := .busy } }
end
end Go.AE
end

section
namespace Go.AE
section
variable {P : Program} {h : Heap} {ts : Array TypeId} {ty : TypeId} {k : IntKind} {a b : Int}
theorem max_int : builtinEv P h .max ts ty [.v (.int k a), .v (.int k b)] = some (.v (.int k (if a < b then b else a)), h) := by
 have h1 : builtinEv P h .max ts ty [.v (.int k a), .v (.int k b)] = ((pureRun P (Builtin.max_ ts ty #[.int k a, .int k b])).bind scalarV).map (·, h) := rfl
 rw [h1]
 have h2 : pureRun P (Builtin.max_ ts ty #[.int k a, .int k b]) = some (.int k (if a < b then b else a)) := by
  simp [Builtin.max_, Builtin.max2]
  split <;> simp_all <;> rfl
 rw [h2]
 split <;> rfl
theorem min_int : builtinEv P h .min ts ty [.v (.int k a), .v (.int k b)] = some (.v (.int k (if b < a then b else a)), h) := by
 have h1 : builtinEv P h .min ts ty [.v (.int k a), .v (.int k b)] = ((pureRun P (Builtin.min_ ts ty #[.int k a, .int k b])).bind scalarV).map (·, h) := rfl
 rw [h1]
 have h2 : pureRun P (Builtin.min_ ts ty #[.int k a, .int k b]) = some (.int k (if b < a then b else a)) := by
  simp [Builtin.min_, Builtin.min2]
  split <;> simp_all <;> rfl
 rw [h2]
 split <;> rfl
theorem len_eq {t : TypeId} {x : AV} : builtinEv P h .len #[t] ty [x] = (lenEv P t x).map (·, h) := rfl
theorem cap_eq {t : TypeId} {x : AV} : builtinEv P h .cap #[t] ty [x] = (capEv P t x).map (·, h) := rfl
theorem append_eq {d : Option Tmp} {s x : AV} : builtinT P (fun _ => none) d h .append ts ty [s, x] = appendEv P h ts s x := rfl
theorem append_list {G : Nat → Option (List AV)} {d : Option Tmp} {s x : AV} (ht : thawed G d ty = false) : builtinT P G d h .append ts ty [s, x] = appendEv P h ts s x := by
 unfold builtinT
 simp only [ht, Bool.false_eq_true, if_false]
theorem append_thaw {G : Nat → Option (List AV)} {d : Option Tmp} {s x : AV} (ht : thawed G d ty = true) : builtinT P G d h .append ts ty [s, x] = thawEv P h ts s x := by
 unfold builtinT
 simp only [ht, if_true]
theorem copy_eq {s x : AV} : builtinEv P h .copy ts ty [s, x] = copyEv P h ts s x := rfl
end
end Go.AE
end

section
namespace Go.AE
set_option linter.defProp false in
def goS := And.intro @run_seq (And.intro @run_region (And.intro @run_cond (And.intro @run_block (And.intro @run_exit (And.intro @run_ret (And.intro @run_skip (And.intro @run_label (And.intro @seqQ_normal (And.intro @seqQ_ret (And.intro @seqQ_exit (And.intro @seqQ_panic (And.intro @blockQ_normal (And.intro @blockQ_ret (And.intro @blockQ_exit (And.intro @blockQ_panic (And.intro @loopQ_normal (And.intro @loopQ_ret (And.intro @loopQ_exit (And.intro @loopQ_panic (And.intro @calmQ_normal (And.intro @calmQ_panic (And.intro @branch_true (And.intro @branch_false (And.intro @guard_tt (And.intro @guard_tf (And.intro @guard_ft (And.intro @guard_ff (And.intro @guard_un (And.intro @guardOf_zero (And.intro @guardOf_succ (And.intro @slot_some (And.intro @runL_nil (And.intro @runL_guard (And.intro @rl_move (And.intro @rl_assign (And.intro @rl_pick (And.intro @rl_alloc (And.intro @rl_box (And.intro @rl_build (And.intro @rl_buildSlice (And.intro @rl_load (And.intro @rl_store (And.intro @rl_nilCheck (And.intro @rl_binOp (And.intro @rl_unOp (And.intro @rl_convert (And.intro @rl_makeInterface (And.intro @rl_makeFunc (And.intro @rl_makeSlice (And.intro @rl_slice (And.intro @rl_fieldAddr (And.intro @rl_field (And.intro @rl_indexAddr (And.intro @rl_index (And.intro @rl_typeAssert (And.intro @rl_extract (And.intro @rl_len (And.intro @rl_cap (And.intro @rl_append (And.intro @rl_copy (And.intro @rl_min (And.intro @rl_max (And.intro @runL_value (And.intro @after_some (And.intro @afterC_ret (And.intro @afterC_panic (And.intro @call_func (And.intro @call_tmp (And.intro @put_some (And.intro @put_none (And.intro @st_get (And.intro @st_defers (And.intro @st_pan (And.intro @st_round (And.intro @start_get (And.intro @start_defers (And.intro @start_pan (And.intro @start_round (And.intro @eval_tmp (And.intro @eval_const (And.intro @eval_func (And.intro @eval_global (And.intro @ofVal_int (And.intro @ofVal_bool (And.intro @ofVal_string (And.intro @ofVal_nilIface (And.intro @ofVal_nilFunc (And.intro @ofVal_nilPtr (And.intro @ofVal_nilSlice (And.intro @ofVal_agg (And.intro @bs_mk (And.intro @bs_size (And.intro @bin_add (And.intro @bin_sub (And.intro @bin_mul (And.intro @bin_quo (And.intro @bin_rem (And.intro @bin_eql (And.intro @bin_neq (And.intro @bin_lss (And.intro @bin_leq (And.intro @bin_gtr (And.intro @bin_geq (And.intro @bin_seql (And.intro @bin_sneq (And.intro @bin_sadd (And.intro @un_not (And.intro @un_neg (And.intro @len_string (And.intro @len_list (And.intro @len_arr (And.intro @index_string (And.intro @pick_bool (And.intro @fits_i64 (And.intro @fits_u8 (And.intro @endQ_normal (And.intro @endQ_ret (And.intro @endQ_panic (And.intro @endX_normal (And.intro @endX_ret (And.intro @endX_panic (And.intro @unwind_nil (And.intro @unwind_panic (And.intro @Bool.not_true (And.intro @Bool.not_false (And.intro @Bool.false_eq_true (And.intro @decide_true (And.intro @decide_false (And.intro @not_true_eq_false (And.intro @not_false_eq_true (And.intro @Int.toNat_natCast (And.intro @Int.toNat_zero (And.intro @Nat.succ_ne_zero (And.intro @max_int (And.intro @min_int (And.intro @len_eq (And.intro @cap_eq (And.intro @append_eq (@copy_eq)))))))))))))))))))))))))))))))))))))))))))))))))))))))))))))))))))))))))))))))))))))))))))))))))))))))))))))))))))))))))))))))))))))))))))
set_option linter.defProp false in
def goH := And.intro @endP_normal (And.intro @endP_ret (And.intro @endP_panic (And.intro @unwind_calm (And.intro @unwind_saved (And.intro @runL_panic (And.intro @rl_defer (And.intro @defer_func (And.intro @rl_recover (And.intro @recover_some (And.intro @recover_none (And.intro @dfr_get (And.intro @dfr_defers (And.intro @dfr_pan (And.intro @dfr_round (And.intro @pn_get (And.intro @pn_defers (And.intro @pn_pan (And.intro @pn_round (And.intro @load_one (And.intro @load_agg (And.intro @store_v (And.intro @store_l (And.intro @slice_str (And.intro @slice_str_from (And.intro @slice_str_to (And.intro @nil_ptr (And.intro @box_push (And.intro @Nat.zero_add (@Nat.add_zero)))))))))))))))))))))))))))))
end Go.AE
end

section
namespace Go.AE
structure Fr (bn l0 n0 : Nat) (h h' : Heap) : Prop where
 box : ∀ (c : Nat) (cs : List AV), c ≠ bn → h.boxes[c]? = some cs → h'.boxes[c]? = some cs
 len : h.boxes.length ≤ h'.boxes.length
 loop : ∀ (l : Nat) (r : LoopRec), l < l0 → h.loops[l]? = some r → h'.loops[l]? = some r
 llen : h.loops.length ≤ h'.loops.length
 tn : h.tn ≤ h'.tn
 dead : ∀ n, n < n0 → n ∈ h'.dead → n ∈ h.dead
 ok : okHeap h = true → okHeap h' = true
theorem Fr.refl (bn l0 n0 : Nat) (h : Heap) : Fr bn l0 n0 h h := ⟨fun _ _ _ h => h, Nat.le_refl _, fun _ _ _ h => h, Nat.le_refl _, Nat.le_refl _, fun _ _ h => h, fun h => h⟩
theorem Fr.trans {bn l0 n0 : Nat} {a b c : Heap} (h : Fr bn l0 n0 a b) (k : Fr bn l0 n0 b c) : Fr bn l0 n0 a c :=
 ⟨fun i cs hi hb => k.box i cs hi (h.box i cs hi hb), Nat.le_trans h.len k.len, fun l r hl hr => k.loop l r hl (h.loop l r hl hr), Nat.le_trans h.llen k.llen, Nat.le_trans h.tn k.tn, fun n hn hd => h.dead n hn (k.dead n hn hd), fun ho => k.ok (h.ok ho)⟩
theorem Ext.llen {h h' : Heap} (x : Ext h h') : h.loops.length ≤ h'.loops.length := by
 rcases Nat.lt_or_ge h'.loops.length h.loops.length with hlt | hge
 ·have h1 := x.loop h'.loops.length _ (List.getElem?_eq_getElem hlt)
  have := (List.getElem?_eq_some_iff.1 h1).1
  omega
 ·exact hge
theorem Fr.of_ext {bn l0 n0 : Nat} {h h' : Heap} (x : Ext h h') (hn : n0 ≤ h.tn) : Fr bn l0 n0 h h' :=
 ⟨fun c cs _ hc => x.box c cs hc, x.len, fun l r _ hl => x.loop l r hl, x.llen, x.tn, fun n h1 h2 => x.dead n (Nat.lt_of_lt_of_le h1 hn) h2, x.ok⟩
theorem Fr.push (bn l0 n0 : Nat) (h : Heap) (cs : List AV) : Fr bn l0 n0 h (h.push cs) :=
 ⟨fun _ _ _ hb => push_old hb, by rw [push_len]; exact Nat.le_succ _, fun _ _ _ h => h, Nat.le_refl _, Nat.le_refl _, fun _ _ h => h, fun h => h⟩
theorem Fr.put (bn l0 n0 : Nat) (h : Heap) (cs : List AV) : Fr bn l0 n0 h (h.put bn cs) :=
 ⟨fun c ds hc hb => by rw [put_other hc]; exact hb, by rw [put_len]; exact Nat.le_refl _, fun _ _ _ h => h, Nat.le_refl _, Nat.le_refl _, fun _ _ h => h, fun h => h⟩
def Heap.setLoop (h : Heap) (l : Nat) (r : LoopRec) : Heap := { h with loops := h.loops.set l r }
theorem Fr.setLoop {bn l0 n0 : Nat} {h : Heap} {l : Nat} (hl : l0 ≤ l) (r : LoopRec) : Fr bn l0 n0 h (h.setLoop l r) :=
 ⟨fun _ _ _ hb => hb, Nat.le_refl _, fun m q hm hq => by rw [← hq]; exact List.getElem?_set_ne (by omega), by simp [Heap.setLoop], Nat.le_refl _, fun _ _ h => h, fun h => h⟩
theorem Fr.ext {bn l0 n0 : Nat} {h h' : Heap} (x : Fr bn l0 n0 h h') (hb : h.boxes.length ≤ bn) (hl : h.loops.length ≤ l0) (hn : h.tn ≤ n0) : Ext h h' :=
 ⟨fun c cs hc => x.box c cs (by have := (List.getElem?_eq_some_iff.1 hc).1; omega) hc, fun l r hr => x.loop l r (by have := (List.getElem?_eq_some_iff.1 hr).1; omega) hr, x.tn, fun n h1 h2 => x.dead n (Nat.lt_of_lt_of_le h1 hn) h2, x.ok⟩
theorem setLoop_other {h : Heap} {l m : Nat} {r : LoopRec} (hl : m ≠ l) : (h.setLoop l r).loops[m]? = h.loops[m]? := by simp [Heap.setLoop, List.getElem?_set_ne (Ne.symm hl)]
def St (l : Nat) (h h' : Heap) : Prop := (∀ (b : Nat) (cs : List AV), h.boxes[b]? = some cs → h'.boxes[b]? = some cs) ∧ ∀ (m : Nat) (r : LoopRec), m ≤ l → h.loops[m]? = some r → h'.loops[m]? = some r
theorem St.refl (l : Nat) (h : Heap) : St l h h := ⟨fun _ _ h => h, fun _ _ _ h => h⟩
theorem St.trans {l : Nat} {a b c : Heap} (h : St l a b) (k : St l b c) : St l a c := ⟨fun i cs hb => k.1 i cs (h.1 i cs hb), fun m r hm hr => k.2 m r hm (h.2 m r hm hr)⟩
theorem St.push (l : Nat) (h : Heap) (cs : List AV) : St l h (h.push cs) := ⟨fun _ _ hb => push_old hb, fun _ _ _ h => h⟩
theorem St.of_ext {l : Nat} {h h' : Heap} (x : Ext h h') : St l h h' := ⟨x.box, fun m r _ hr => x.loop m r hr⟩
theorem St.setLoop {l k : Nat} {h : Heap} (hl : l < k) (r : LoopRec) : St l h (h.setLoop k r) := ⟨fun _ _ hb => hb, fun m q hm hq => by rw [setLoop_other (by omega)]; exact hq⟩
theorem St.put_new {l : Nat} {h h' : Heap} (x : St l h h') {b : Nat} (hb : h.boxes.length ≤ b) (cs : List AV) : St l h (h'.put b cs) :=
 ⟨fun c ds hc => by
  have hlt : c < h.boxes.length := (List.getElem?_eq_some_iff.1 hc).1
  rw [put_other (by omega)]
  exact x.1 c ds hc, x.2⟩
inductive Nx (α : Type) where
 | cont (a : α) | stop (a : α) | panic (v : AV)
section
variable {P : Program} {G : Nat → Option (List AV)} {prims : FuncId → Option (List AV → Heap → Option (AV × Heap))} {Q : Xt → Env → Heap → Prop} {e : Env} {h : Heap}
theorem St.mono {l l' : Nat} (hl : l ≤ l') {h h' : Heap} (x : St l' h h') : St l h h' := ⟨x.1, fun m r hm hr => x.2 m r (by omega) hr⟩
end
end Go.AE
end

section
namespace Go.AE
section
variable {P : Program} {G : Nat → Option (List AV)} {R : Rec}
end
section
variable {P : Program} {G : Nat → Option (List AV)} {prims : FuncId → Option (List AV → Heap → Option (AV × Heap))} {Q : Xt → Env → Heap → Prop} {e : Env} {h : Heap}
end
end Go.AE
end

section
namespace Go.AE
section
variable {b n0 : Nat} {h h' : Heap}
theorem Mut.put_new (m : Mut b n0 h h') {c : Nat} (hc : h.boxes.length ≤ c) (cs : List AV) : Mut b n0 h (h'.put c cs) := by
 refine ⟨fun d ds hd hb => ?_, by rw [put_len]; exact m.len, m.loop, m.tn, m.dead, m.ok⟩
 have hlt : d < h.boxes.length := (List.getElem?_eq_some_iff.1 hb).1
 rw [put_other (by omega)]
 exact m.box d ds hd hb
theorem Mut.push (m : Mut b n0 h h') (cs : List AV) : Mut b n0 h (h'.push cs) :=
 ⟨fun d ds hd hb => push_old (m.box d ds hd hb), by rw [push_len]; exact Nat.le_succ_of_le m.len, m.loop, m.tn, m.dead, m.ok⟩
theorem Mut.app2 (m : Mut b n0 h h') {k : Tok} (hk : CanApp n0 h' k) : Mut b n0 h (h'.app k) := m.trans (Mut.app hk)
end
theorem Mut.weak {b n0 n1 : Nat} {h h' : Heap} (m : Mut b n1 h h') (hn : n0 ≤ n1) : Mut b n0 h h' := ⟨m.box, m.len, m.loop, m.tn, fun k hk hd => m.dead k (Nat.lt_of_lt_of_le hk hn) hd, m.ok⟩
theorem CanApp.mut {b n0 n1 : Nat} {h h' : Heap} {k : Tok} (hk : CanApp n0 h k) (m : Mut b n1 h h') (hn : h.tn ≤ n1) : CanApp n0 h' k := by
 rcases hk with q | q | ⟨z, q, q2, q3⟩
 ·exact .inl q
 ·exact .inr (.inl q)
 ·refine .inr (.inr ⟨z, q, q2, ?_⟩)
  unfold alive at q3 ⊢
  simp only [Bool.and_eq_true, decide_eq_true_eq, Bool.not_eq_true', List.contains_eq_mem, decide_eq_false_iff_not] at q3 ⊢
  exact ⟨Nat.lt_of_lt_of_le q3.1 m.tn, fun hd => q3.2 (m.dead z (Nat.lt_of_lt_of_le q3.1 hn) hd)⟩
end Go.AE
end

section
namespace Go.AE
section
variable {P : Program} {G : Nat → Option (List AV)} {R : Rec} {ops : Array Oper} {k : Nat}
theorem quiet_skip {i : Nat} {l : List Nat} {e : Env} {h : Heap} (hi : i < ops.size) (hq : hushed ops k i = true) : opsEv P G R (cut ops k) (i :: l) e h = opsEv P G R (cut ops k) l e h := by
 have hs : stepEv P G R (cut ops k) i e h = some (ofVal (.bool true), e, h) := by
  unfold stepEv
  rw [cut_get, hq, Array.getElem?_eq_getElem hi]
  rfl
 rw [ops_step hs, mid_dst2 hq]
 rfl
theorem cut_filter : ∀ (l : List Nat), (∀ i ∈ l, i < ops.size) → ∀ (e : Env) (h : Heap), opsEv P G R (cut ops k) l e h = opsEv P G R (cut ops k) (l.filter fun i => !hushed ops k i) e h := by
 intro l
 induction l with
 | nil => intro _ e h; rfl
 | cons i l ih =>
  intro hl e h
  have ih := ih fun j hj => hl j (List.mem_cons_of_mem _ hj)
  cases hq : hushed ops k i with
  | true => rw [quiet_skip (hl i List.mem_cons_self) hq, ih, List.filter_cons, hq]; rfl
  | false =>
   rw [List.filter_cons, hq]
   simp only [Bool.not_false, if_true]
   rw [opsEv, opsEv]
   cases (cut ops k)[i]? with
   | none => rfl
   | some o => simp only [ih]
theorem opsL_some : ∀ (l : List Nat), (∀ i ∈ l, i < ops.size) → ∀ (e : Env) (h : Heap), opsEv P G R ops l e h = opsL P G R ops (l.filterMap fun i => ops[i]?) e h := by
 intro l
 induction l with
 | nil => intro _ e h; rfl
 | cons i l ih =>
  intro hl e h
  have ih := ih fun j hj => hl j (List.mem_cons_of_mem _ hj)
  have hi : i < ops.size := hl i List.mem_cons_self
  have ho : ops[i]? = some ops[i] := Array.getElem?_eq_getElem hi
  rw [List.filterMap_cons, ho]
  simp only [opsEv, opsL, ho]
  cases wantedA ops e ops[i] with
  | none => rfl
  | some b =>
   cases b with
   | false => exact ih _ _
   | true =>
    simp only
    cases opEv P G R e h ops[i] with
    | none => rfl
    | some q =>
     obtain ⟨r, e1, h1⟩ := q
     cases r with
     | ret x => exact ih _ _
     | panic x => rfl
end
section
variable {P : Program} {G : Nat → Option (List AV)} {prims : FuncId → Option (List AV → Heap → Option (AV × Heap))} {Q : Xt → Env → Heap → Prop} {e : Env} {h : Heap}
def normQ : Xt → Env → Heap → Prop
 | .normal, _, _ => True
 | _, _, _ => False
def midQ (P : Program) (G : Nat → Option (List AV)) (R : Rec) (ops : Array Oper) (l m : List Oper) (Q : Xt → Env → Heap → Prop) : Xt → Env → Heap → Prop
 | .normal, e, h => RunL P G R ops l e h Q ∧ RunL P G R ops m e h normQ
 | _, _, _ => False
def panQ (ops : Array Oper) (k : Nat) (Q : Xt → Env → Heap → Prop) : Xt → Env → Heap → Prop
 | .panic x, e, h => Q (.panic x) (dim ops k e) h
 | _, _, _ => False
theorem normQ_normal : normQ .normal e h = True := rfl
theorem midQ_normal {R : Rec} {ops : Array Oper} {l m : List Oper} : midQ P G R ops l m Q .normal e h = (RunL P G R ops l e h Q ∧ RunL P G R ops m e h normQ) := rfl
theorem panQ_panic {ops : Array Oper} {k : Nat} {x : AV} : panQ ops k Q (.panic x) e h = Q (.panic x) (dim ops k e) h := rfl
theorem dim_defers {ops : Array Oper} {k : Nat} : (dim ops k e).defers = e.defers := rfl
theorem dim_pan {ops : Array Oper} {k : Nat} : (dim ops k e).pan = e.pan := rfl
def onceQ (R : Rec) (c : Code) (Q : Xt → Env → Heap → Prop) : Xt → Env → Heap → Prop
 | .normal, e, h => Run R (.loop c) e h Q
 | .panic x, e, h => Q (.panic x) e h
 | .exit i, e, h => Q (.exit i) e h
 | .ret, e, h => Q .ret e h
theorem onceQ_normal {R : Rec} {c : Code} : onceQ R c Q .normal e h = Run R (.loop c) e h Q := rfl
theorem onceQ_panic {R : Rec} {c : Code} {x : AV} : onceQ R c Q (.panic x) e h = Q (.panic x) e h := rfl
theorem onceQ_exit {R : Rec} {c : Code} {i : Nat} : onceQ R c Q (.exit i) e h = Q (.exit i) e h := rfl
theorem onceQ_ret {R : Rec} {c : Code} : onceQ R c Q .ret e h = Q .ret e h := rfl
theorem run_once {c : Code} (hr : Run (whole P G prims) c e h (onceQ (whole P G prims) c Q)) : Run (whole P G prims) (.loop c) e h Q := by
 obtain ⟨o, e1, h1, h2, h3⟩ := hr
 unfold Run
 rw [whole_code]
 simp only [codeEv]
 rw [h2]
 cases o with
 | normal => exact h3
 | panic x => exact ⟨_, _, _, rfl, h3⟩
 | exit i => exact ⟨_, _, _, rfl, h3⟩
 | ret => exact ⟨_, _, _, rfl, h3⟩
def restOk (ops : Array Oper) (k : Nat) (js : List Nat) : Bool := decide (((List.range ops.size).filter fun i => !hushed ops k i) = List.range k ++ js)
theorem cut_stable {P : Program} {G : Nat → Option (List AV)} {R : Rec} {ops : Array Oper} {e : Env} {h : Heap} {k i j : Nat} (hc : cutOk ops k = true) (hap : apartOk (cut ops k) i j = true) (hi : i < k) (hj : j < k) (hs : stableOk P G R ops e h i j = true) : stableOk P G R (cut ops k) e h i j = true := by
 obtain ⟨hk, hst⟩ := stands_of hc
 have low : ∀ a, a < k → hushed ops k a = false ∧ guardAt ops k a = true := by
  intro a ha
  cases hst a (by omega) with
  | self q => omega
  | ahead q1 q2 _ _ => exact ⟨q1, q2⟩
  | beside q1 q2 _ _ => exact ⟨q1, q2⟩
  | behind q _ _ => omega
 have pre : ∀ a, a ≤ k → ∀ (e : Env) (h : Heap), opsEv P G R (cut ops k) (List.range a) e h = opsEv P G R ops (List.range a) e h := fun a ha e h => mid_ops (fun b hb => low b (by have := List.mem_range.1 hb; omega)) e h
 have st : ∀ r m, r < k → m ≤ k → stable P G R ops e h r m = true → stable P G R (cut ops k) e h r m = true := by
  intro r m hr hm hq
  unfold stable at hq ⊢
  split at hq
  ·rename_i o er hr' em hm' g1 g2 g3
   rw [cut_low (low r hr).1, pre r (by omega), pre m hm, g1, g2, g3]
   simp only [mid_wanted g1 (low r hr).2]
   exact hq
  ·cases hq
 unfold stableOk at hs ⊢
 rw [hap, cut_low (low i hi).1, cut_low (low j hj).1]
 rw [Bool.and_eq_true] at hs
 have h2 := hs.2
 rw [Bool.true_and]
 split at h2
 ·rename_i hx hy; (try simp only [hx, hy]); exact st _ _ hi (by omega) h2
 ·rename_i hx hy; (try simp only [hx, hy]); exact st _ _ hj (by omega) h2
 ·cases h2
theorem run_mid_of {id : Nat} {ops : Array Oper} (k : Nat) (js : List Nat) (hc : cutOk ops k = true) (hd : drawFits P G (whole P G prims) (cut ops k) e h = true) (hj : restOk ops k js = true)
 (hr : RunL P G (whole P G prims) ops (ops.toList.take k) e h (midQ P G (whole P G prims) ops ((ops.toList.drop k).take 1) (js.filterMap fun i => ops[i]?) (panQ ops k Q))) : Run (whole P G prims) (.region id ops true) e h Q := by
 obtain ⟨hk, hst⟩ := stands_of hc
 have hj := of_decide_eq_true hj
 obtain ⟨o, e1, h1, r1, r2⟩ := hr
 have ho : o = .normal := by cases o <;> first | rfl | exact r2.elim
 subst ho
 obtain ⟨q12, n12⟩ : RunL P G (whole P G prims) ops ((ops.toList.drop k).take 1) e1 h1 (panQ ops k Q) ∧ RunL P G (whole P G prims) ops (js.filterMap fun i => ops[i]?) e1 h1 normQ := r2
 obtain ⟨o2, e2, h2, q1, q2⟩ := q12
 rw [← opsEv_take (by omega)] at r1
 have q3 := opsL_part (P := P) (G := G) (R := whole P G prims) ops 1 k (by omega) e1 h1
 rw [q1] at q3
 have jlt : ∀ i ∈ List.range k ++ js, i < ops.size ∧ hushed ops k i = false := by
  intro i hi
  rw [← hj] at hi
  obtain ⟨a, b⟩ := List.mem_filter.1 hi
  exact ⟨List.mem_range.1 a, by simpa using b⟩
 have jlow : ∀ i ∈ List.range k ++ js, hushed ops k i = false ∧ guardAt ops k i = true := by
  intro i hi
  obtain ⟨a, b⟩ := jlt i hi
  cases hst i a with
  | self q => subst q; rw [hushed_self] at b; cases b
  | ahead q1 q2 _ _ => exact ⟨q1, q2⟩
  | beside q1 q2 _ _ => exact ⟨q1, q2⟩
  | behind _ q _ => rw [b] at q; cases q
 cases o2 with
 | panic x =>
  have hq : opsEv P G (whole P G prims) ops (List.range (k + 1)) e h = some (.panic x, e2, h2) := by
   rw [List.range_succ, ops_app r1]
   exact q3
  obtain ⟨o3, e3, h3, n1, n2⟩ := n12
  have ho3 : o3 = .normal := by cases o3 <;> first | rfl | exact n2.elim
  subst ho3
  have n3 : opsEv P G (whole P G prims) (cut ops k) (List.range (cut ops k).size) e h = some (.normal, e3, h3) := by
   rw [cut_size, cut_filter _ (fun i hi => List.mem_range.1 hi), hj, mid_ops jlow, ops_app r1, opsL_some _ (fun i hi => (jlt i (List.mem_append_right _ hi)).1)]
   exact n1
  have hm : midAt P G (whole P G prims) ops e h k = true := by
   unfold midAt
   simp only [Bool.and_eq_true]
   exact ⟨hc, hd, by rw [n3]; rfl, by rw [r1]; rfl, by rw [hq]; rfl⟩
  unfold Run
  rw [whole_code, mid_code (midEv_eq hm hq)]
  exact ⟨_, _, _, rfl, q2⟩
 | normal => exact q2.elim
 | exit i => exact q2.elim
 | ret => exact q2.elim
theorem run_draw_mid {id : Nat} {ops : Array Oper} (k : Nat) (js : List Nat) (hc : cutOk ops k = true) (hd : drawOk (cut ops k) = true) (hj : restOk ops k js = true)
 (hr : RunL P G (whole P G prims) ops (ops.toList.take k) e h (midQ P G (whole P G prims) ops ((ops.toList.drop k).take 1) (js.filterMap fun i => ops[i]?) (panQ ops k Q))) : Run (whole P G prims) (.region id ops true) e h Q :=
 run_mid_of k js hc (fits_of_ok hd e h) hj hr
def pairsOk (ops : Array Oper) (k : Nat) (ps : List (Nat × Nat)) : Bool := ps.all fun p => apartOk (cut ops k) p.1 p.2 && (decide (p.1 < k) && decide (p.2 < k))
theorem run_mid_but {id : Nat} {ops : Array Oper} (k : Nat) (js : List Nat) (ps : List (Nat × Nat)) (hc : cutOk ops k = true) (hd : drawBut (cut ops k) ps = true) (hp : pairsOk ops k ps = true) (hj : restOk ops k js = true)
 (hs : ∀ p ∈ ps, stableOk P G (whole P G prims) ops e h p.1 p.2 = true)
 (hr : RunL P G (whole P G prims) ops (ops.toList.take k) e h (midQ P G (whole P G prims) ops ((ops.toList.drop k).take 1) (js.filterMap fun i => ops[i]?) (panQ ops k Q))) : Run (whole P G prims) (.region id ops true) e h Q := by
 refine run_mid_of k js hc (fits_but hd fun p hpp => ?_) hj hr
 unfold pairsOk at hp
 rw [List.all_eq_true] at hp
 have := hp p hpp
 simp only [Bool.and_eq_true, decide_eq_true_eq] at this
 exact cut_stable hc this.1 this.2.1 this.2.2 (hs p hpp)
end
end Go.AE
end

section
namespace Go.AE

mutual
def lowA (n : Nat) : AV → Bool
 | .list _ _ es => lowR n es
 | .arr b _ _ _ => decide (b < n)
 | .agg cs => lowL n cs
 | .tuple cs => lowL n cs
 | .ptr (.box b) _ => decide (b < n)
 | .elem _ es _ _ => lowR n es
 | .func _ a b => lowL n a && lowL n b
 | .iface _ x => lowA n x
 | _ => true
def lowL (n : Nat) : List AV → Bool
 | [] => true
 | x :: r => lowA n x && lowL n r
def lowR (n : Nat) : List (List AV) → Bool
 | [] => true
 | r :: rs => lowL n r && lowR n rs
end
theorem lowL_app (n : Nat) : ∀ (a b : List AV), lowL n (a ++ b) = (lowL n a && lowL n b)
 | [], b => by simp [lowL]
 | x :: a, b => by rw [List.cons_append, lowL, lowL, lowL_app n a b, Bool.and_assoc]
theorem lowR_flat (n : Nat) : ∀ es : List (List AV), lowL n es.flatten = lowR n es
 | [] => rfl
 | r :: es => by rw [List.flatten_cons, lowL_app, lowR, lowR_flat n es]
def Know.low (K : Know) (n : Nat) : Know := { K with β := K.β.take n }
section
variable {K : Know}
theorem β_lt {b g : Nat} (h : K.β[b]? = some g) : b < K.β.length := (List.getElem?_eq_some_iff.1 h).1
mutual
theorem VRel.low : ∀ {x : AV} {c : Value}, VRel K x c → lowA K.β.length x = true
 | _, _, .bad _ => rfl
 | _, _, .v _ _ => rfl
 | _, _, .nil _ => rfl
 | _, _, .none0 _ _ => rfl
 | _, _, .list _ _ es _ _ _ _ _ _ _ hv _ _ _ => by rw [lowA, ← lowR_flat]; exact VsRel.low hv
 | _, _, .arr _ _ _ _ _ _ _ hb _ _ _ _ => by rw [lowA]; exact decide_eq_true (β_lt hb)
 | _, _, .agg _ _ hv => by rw [lowA]; exact VsRel.low hv
 | _, _, .tuple _ _ hv => by rw [lowA]; exact VsRel.low hv
 | _, _, .box _ _ _ hb => by rw [lowA]; exact decide_eq_true (β_lt hb)
 | _, _, .glob _ _ => rfl
 | _, _, .elem _ es _ _ _ _ _ _ _ hv _ _ _ _ => by rw [lowA, ← lowR_flat]; exact VsRel.low hv
 | _, _, .func _ _ _ _ _ h1 h2 => by rw [lowA, VsRel.low h1, VsRel.low h2]; rfl
 | _, _, .yield _ _ _ => rfl
 | _, _, .iface _ _ _ hx => by rw [lowA]; exact VRel.low hx
theorem VsRel.low : ∀ {xs : List AV} {cs : List Value}, VsRel K xs cs → lowL K.β.length xs = true
 | _, _, .nil => rfl
 | _, _, .cons _ _ _ _ hx hs => by rw [lowL, VRel.low hx, VsRel.low hs]; rfl
end
theorem low_β {n b g : Nat} (hb : K.β[b]? = some g) (hn : b < n) : (K.low n).β[b]? = some g := by
 show (K.β.take n)[b]? = some g
 rw [List.getElem?_take, if_pos hn, hb]
theorem TokOk.low {n : Nat} {k : Tok} {g off sz m cap : Nat} (h : TokOk K k g off sz m cap) : TokOk (K.low n) k g off sz m cap := h
mutual
theorem VRel.cut {n : Nat} : ∀ {x : AV} {c : Value}, VRel K x c → lowA n x = true → VRel (K.low n) x c
 | _, _, .bad c, _ => .bad c
 | _, _, .v x hx, _ => .v x hx
 | _, _, .nil sz, _ => .nil sz
 | _, _, .none0 sz a, _ => .none0 sz a
 | _, _, .list k sz es g off m cap cells hn hr hv hc ht ha, h => .list k sz es g off m cap cells hn hr (VsRel.cut hv (by rw [lowR_flat]; rw [lowA] at h; exact h)) hc ht.low ha
 | _, _, .arr b g off len cap off' cap' hb hl hc ho hr, h => .arr b g off len cap off' cap' (low_β hb (by rw [lowA] at h; exact of_decide_eq_true h)) hl hc ho hr
 | _, _, .agg cs vs hv, h => .agg cs vs (VsRel.cut hv (by rw [lowA] at h; exact h))
 | _, _, .tuple cs vs hv, h => .tuple cs vs (VsRel.cut hv (by rw [lowA] at h; exact h))
 | _, _, .box b g off hb, h => .box b g off (low_β hb (by rw [lowA] at h; exact of_decide_eq_true h))
 | _, _, .glob g off, _ => .glob g off
 | _, _, .elem sz es i off g o p cells hr hv hc hi hp ha, h => .elem sz es i off g o p cells hr (VsRel.cut hv (by rw [lowR_flat]; rw [lowA] at h; exact h)) hc hi hp ha
 | _, _, .func fn first cap fs cs h1 h2, h => .func fn first cap fs cs (VsRel.cut h1 (by rw [lowA, Bool.and_eq_true] at h; exact h.1)) (VsRel.cut h2 (by rw [lowA, Bool.and_eq_true] at h; exact h.2))
 | _, _, .yield l g hl, _ => .yield l g hl
 | _, _, .iface t x c hx, h => .iface t x c (VRel.cut hx (by rw [lowA] at h; exact h))
theorem VsRel.cut {n : Nat} : ∀ {xs : List AV} {cs : List Value}, VsRel K xs cs → lowL n xs = true → VsRel (K.low n) xs cs
 | _, _, .nil, _ => .nil
 | _, _, .cons x c xs cs hx hs, h => .cons x c xs cs (VRel.cut hx (by rw [lowL, Bool.and_eq_true] at h; exact h.1)) (VsRel.cut hs (by rw [lowL, Bool.and_eq_true] at h; exact h.2))
end
end
section
variable {P : Program} {G : Nat → Option (List AV)} {w0 w w' : World} {K K' : Know} {h h' : Heap} {ok : FuncId → Nat → Code → Bool}
theorem take_get {α : Type} {l m : List α} (h : l.take m.length = m) {i : Nat} {x : α} (hx : m[i]? = some x) : l[i]? = some x := by
 have hi := (List.getElem?_eq_some_iff.1 hx).1
 rw [← h, List.getElem?_take, if_pos hi] at hx
 exact hx
theorem Sim.forget (s : Sim K G ok w0 h w) (s' : Sim K' G ok w0 h' w') (le : K.Le K') (hb : h'.boxes.take h.boxes.length = h.boxes) (hl : h'.loops = h.loops) : Sim (K'.low h.boxes.length) G ok w0 { h' with boxes := h.boxes } w' := by
 have hlen : h.boxes.length ≤ h'.boxes.length := by
  have := congrArg List.length hb
  rw [List.length_take] at this
  omega
 have low : ∀ {b g : Nat}, (K'.low h.boxes.length).β[b]? = some g → b < h.boxes.length ∧ K'.β[b]? = some g := by
  intro b g hg
  have hg : (K'.β.take h.boxes.length)[b]? = some g := hg
  rw [List.getElem?_take] at hg
  split at hg
  ·exact ⟨by assumption, hg⟩
  ·cases hg
 have βl := s.βlen
 refine ⟨s'.old, s'.size, s'.ic, fun g cs hg => ?_, ?_, fun b b' g h1 h2 => ?_, fun b g cs h1 h2 => ?_, ?_, s'.γnd, fun l g r h1 h2 => ?_, s'.tn, fun t ht => ?_, s'.tokd, s'.md, s'.all⟩
 ·obtain ⟨cells, q1, q2⟩ := s'.glob g cs hg
  obtain ⟨cells0, p1, -⟩ := s.glob g cs hg
  have hlow := VsRel.low p1
  rw [βl] at hlow
  exact ⟨cells, VsRel.cut q1 hlow, q2⟩
 ·show (K'.β.take h.boxes.length).length = h.boxes.length
  rw [List.length_take, s'.βlen]
  omega
 ·have key : ∀ k, k < h.boxes.length → h'.boxes[k]? = some [] → h.boxes[k]? = some [] := fun k hk q => by
   rw [← hb, List.getElem?_take, if_pos hk]; exact q
  rcases s'.βnd b b' g (low h1).2 (low h2).2 with p | p | p
  ·exact .inl p
  ·exact .inr (.inl (key _ (low h1).1 p))
  ·exact .inr (.inr (key _ (low h2).1 p))
 ·obtain ⟨hlt, h1⟩ := low h1
  obtain ⟨q1, q2, q3, cells, e, q4, q5⟩ := s'.box b g cs h1 (take_get hb h2)
  obtain ⟨g0, hg0⟩ : ∃ g0, K.β[b]? = some g0 := ⟨_, List.getElem?_eq_getElem (by omega)⟩
  obtain ⟨-, -, -, cells0, e0, -, p5⟩ := s.box b g0 cs hg0 h2
  have hlow := VsRel.low p5.1
  rw [βl] at hlow
  exact ⟨q1, q2, q3, cells, e, q4, VsRel.cut q5.1 hlow, q5.2⟩
 ·show K'.γ.length = h'.loops.length
  exact s'.γlen
 ·obtain ⟨q1, fn, tmps, d, q2, q3, q4⟩ := s'.loop l g r h1 h2
  have h2' : h'.loops[l]? = some r := h2
  rw [hl] at h2'
  obtain ⟨g0, hg0⟩ : ∃ g0, K.γ[l]? = some g0 := ⟨_, List.getElem?_eq_getElem (by rw [s.γlen]; exact (List.getElem?_eq_some_iff.1 h2').1)⟩
  obtain ⟨-, fn0, tmps0, d0, -, p3, -⟩ := s.loop l g0 r hg0 h2'
  refine ⟨q1, fn, tmps, d, q2, fun t => ?_, q4⟩
  have hlow := VRel.low (p3 t)
  rw [βl] at hlow
  exact VRel.cut (q3 t) hlow
 ·obtain ⟨q1, q2, q3⟩ := s'.tok t ht
  exact ⟨q1, fun b hbt => q2 b (low hbt).2, q3⟩
theorem prim_of_call {prims : FuncId → Option (List AV → Heap → Option (AV × Heap))} (hp : Prog P) (hprim : ∀ g p, prims g = some p → PrimOk P G w0 g p) {g : FuncId} {p : List AV → Heap → Option (AV × Heap)} (hfn : ∃ fn, P.funcs[g]? = some fn ∧ fn.body.isSome = true)
 (hcall : ∀ args h x h', p args h = some (x, h') → ∃ h2, (whole P G prims).call g args h = some (.ret x, h2) ∧ h2.boxes.take h.boxes.length = h.boxes ∧ h2.loops = h.loops ∧ h' = { h2 with boxes := h.boxes } ∧ lowA h.boxes.length x = true) : PrimOk P G w0 g p := by
 refine ⟨hfn, fun args h x h' hx K w vargs hv hs cs => ?_⟩
 obtain ⟨h2, hc, hb, hl, rfl, hlow⟩ := hcall args h x h' hx
 obtain ⟨-, hsim⟩ := (whole_sim hp hprim).call g args h _ _ hc
 obtain ⟨K', w', fr, le, s', hst, hfr, v, hv', hle⟩ := hsim K w vargs hv hs cs
 refine ⟨.returned v, w', fr, ⟨v, K'.low h.boxes.length, rfl, ?_, VRel.cut hv' hlow, Sim.forget hs s' le hb hl⟩, hst, hfr, hle⟩
 have βl := hs.βlen
 exact ⟨le.base, le.ic, fun b g hb => low_β (le.β b g hb) (by rw [← βl]; exact β_lt hb), le.γ, le.tn, le.tk, le.md, le.lb⟩
end
end Go.AE
end

section
namespace Go.AE
section
universe u
set_option linter.defProp false in
def goT := And.intro @Option.map_some.{0, 0} (And.intro @Option.map_none.{0, 0} (And.intro @Option.bind_some.{0, 0} (And.intro @List.map_cons.{0, 0} (And.intro @List.map_nil.{0, 0} (And.intro @List.getD_cons_zero.{0} (And.intro @List.getD_cons_succ.{0} (And.intro @List.getElem?_toArray.{0} (And.intro @List.getElem?_cons_zero.{0} @List.getElem?_cons_succ.{0}))))))))
set_option linter.defProp false in
def goU := And.intro @List.append_nil.{0} @List.nil_append.{0}
set_option linter.defProp false in
def lenL := And.intro @List.length_cons.{0} (And.intro @List.length_nil.{0} @List.length_append.{0})
set_option linter.defProp false in
def lenH := And.intro @push_len (And.intro @put_len @len_app)
set_option linter.defProp false in
def lenS := And.intro @List.length_cons.{0} (And.intro @List.length_nil.{0} (And.intro @List.length_append.{0} (And.intro @push_len (And.intro @put_len @len_app))))
set_option linter.defProp false in
def getS := And.intro @get_push_last (And.intro @get_push_eq (And.intro @get_push_ne (And.intro @get_put_eq (And.intro @get_put_ne @get_app))))
set_option linter.defProp false in
def canS := And.intro @canApp_push @canApp_put
set_option linter.defProp false in
def rndS := And.intro @st_round (And.intro @dfr_round @pn_round)
end
set_option linter.defProp false in
def G_d := @guard_dec
set_option linter.defProp false in
def G_n := @guard_ndec
set_option linter.defProp false in
def B_d := @branch_dec
set_option linter.defProp false in
def B_n := @branch_ndec
set_option linter.defProp false in
def G_m := @guard_nbool
set_option linter.defProp false in
def B_m := @branch_nbool
set_option linter.defProp false in
def G_b := @guard_bool
set_option linter.defProp false in
def B_b := @branch_bool
theorem dZ {p : Prop} (h : p := by first | assumption | (exact Nat.le_refl _) | omega | (simp only [lenS] <;> omega) | (simp (disch := (first | assumption | omega | (exact (push_len _ _).symm) | (simp only [lenH]; omega) | (refine Nat.le_antisymm ?_ ?_ <;> simp only [lenH] <;> omega) | fail)) only [getS] <;> first | assumption | rfl) | (simp only [canS]; assumption) | (exact start_round _ _) | (simp only [rndS]; first | assumption | exact start_round _ _)) : p := h
theorem dX {a b p : Prop} (x : a) (y : b) (f : a → b → p := by first | exact G_d | exact G_n | exact B_d | exact B_n) : p := f x y
theorem dY {a b p : Prop} (x : a) (y : b) (f : a → b → p := by first | exact G_m | exact B_m | exact G_b | exact B_b) : p := f x y
end Go.AE
end

section
namespace Go.AE
section
variable {P : Program} {t0 t1 t elem : TypeId} {i : TypeInfo} {h : Heap} {k k' : Tok} {sz : Nat} {es new : List (List AV)}
theorem thaw_rows (h0 : P.underlying t0 = some (.slice elem)) (h1 : P.underlying t1 = some (.slice elem)) (hi : P.info? elem = some i) (hsz : 0 < i.size) (hz : (i.zero.map fun z => z.cells.size) = some i.size) (hnew : new ≠ [])
 (hb : (es.length + new.length) * i.bytes ≤ 140737488355328) (hl : es.length + new.length ≤ 9223372036854775807) (hs : sz = i.size ∨ es = []) (hk : k = .nil ∨ k = .tight) {x : AV} (hx : newRows h i.size x = some new) :
 thawEv P h #[t0, t1] (.list k sz es) x = some (.arr h.boxes.length 0 (es.length + new.length) (es.length + new.length), h.push (es ++ new).flatten) := by
 unfold thawEv
 simp only [List.getElem?_toArray, List.getElem?_cons_zero, List.getElem?_cons_succ, Option.bind_some, h0, h1, hi, hx]
 rw [if_pos ⟨hsz, hz⟩, if_pos hs, if_neg hnew, if_pos ⟨hb, hl⟩]
 rcases hk with rfl | rfl <;> rfl
theorem new_list : newRows h sz (.list k sz es) = some es := by
 unfold newRows rowsOf
 simp
theorem slice_arr_to {b off len cap n : Nat} {m : Int} {kk : IntKind} (h0 : P.underlying t = some (.slice elem)) (hs : sizeB P elem = some n) (hn : n ≠ 0) (h1 : 0 ≤ m) (h2 : m ≤ cap) (h3 : 0 < cap) : sliceEv P t (.arr b off len cap) none (some (.v (.int kk m))) none = some (.arr b off m.toNat cap) := by
 have e1 : boundOf cap none cap = some cap := rfl
 have e2 : boundOf cap (some (.v (.int kk m))) len = some m.toNat := by
  show (if 0 ≤ m ∧ m ≤ (cap : Int) then some m.toNat else none) = _
  rw [if_pos ⟨h1, h2⟩]
 have e3 : boundOf m.toNat none 0 = some 0 := rfl
 unfold sliceEv
 simp only [h0, hs, e1, e2, e3, Option.isSome_none, Bool.false_and, Bool.false_eq_true, false_and, if_false, hn, Nat.sub_zero, Nat.zero_mul, Nat.add_zero, ite_self]
end
end Go.AE
end
