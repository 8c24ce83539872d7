/-
 The engine, part 14: the records of the loops that range over a function, and the marks among the deferred calls.
-/
import Derived.Test.YtmdakolcndpjeaaGreatDoorE2
import Derived.RangeFuncRecord
import Derived.Laws.BitsLemmas
set_option linter.unusedSimpArgs false
set_option linter.unusedVariables false
set_option linter.constructorNameAsVariable false
section
namespace Go.AE
open Go.RowKit (Below)

structure Know.Keeps (K K' : Know) : Prop where
 base : K'.base = K.base
 ic : ∀ g j c, K.ic g j = some c → K'.ic g j = some c
 β : ∀ b g : Nat, K.β[b]? = some g → K'.β[b]? = some g
 γ : ∀ l g : Nat, K.γ[l]? = some g → K'.γ[l]? = some g
 tn : K.tn ≤ K'.tn
 tk : ∀ t, t < K.tn → K'.tk t = K.tk t

def Know.un (K : Know) (r : Nat) : Know := { K with md := K.md.filter (· != r) }

theorem TokOk.un {K : Know} {r : Nat} {k : Tok} {g off sz n cap : Nat} (h : TokOk K k g off sz n cap) : TokOk (K.un r) k g off sz n cap := h

mutual
theorem VRel.un {K : Know} {r : Nat} : ∀ {x : AV} {c : Value}, VRel K x c → VRel (K.un r) x c
 | _, _, .bad c => .bad c
 | _, _, .v x hx => .v x hx
 | _, _, .nil sz => .nil sz
 | _, _, .none0 sz a => .none0 sz a
 | _, _, .list k sz es g off n cap cells hn hr hv hc ht ha => .list k sz es g off n cap cells hn hr (VsRel.un hv) hc ht ha
 | _, _, .arr b g off len cap off' cap' hb hl hc ho hr => .arr b g off len cap off' cap' hb hl hc ho hr
 | _, _, .agg cs vs hv => .agg cs vs (VsRel.un hv)
 | _, _, .tuple cs vs hv => .tuple cs vs (VsRel.un hv)
 | _, _, .box b g off hb => .box b g off hb
 | _, _, .glob g off => .glob g off
 | _, _, .elem sz es i off g o p cells hr hv hc hi hp ha => .elem sz es i off g o p cells hr (VsRel.un hv) hc hi hp ha
 | _, _, .func fn first cap fs cs h1 h2 => .func fn first cap fs cs (VsRel.un h1) (VsRel.un h2)
 | _, _, .yield l g hl => .yield l g hl
 | _, _, .iface t x c hx => .iface t x c (VRel.un hx)
theorem VsRel.un {K : Know} {r : Nat} : ∀ {xs : List AV} {cs : List Value}, VsRel K xs cs → VsRel (K.un r) xs cs
 | _, _, .nil => .nil
 | _, _, .cons x c xs cs hx hs => .cons x c xs cs (VRel.un hx) (VsRel.un hs)
end

theorem DefRel.un {K : Know} {r : Nat} {ds cds ms} (h : DefRel K ds cds ms) (hr : r ∉ ms) : DefRel (K.un r) ds cds ms := by
 induction h with
 | nil => exact .nil
 | call g args vs cap ds cds ms hv _ ih => exact .call g args vs cap ds cds ms (VsRel.un hv) (ih hr)
 | mark r' ds cds ms hr' hn _ ih =>
  have hne : r' ≠ r := fun hq => hr (hq ▸ List.mem_cons_self)
  exact .mark r' ds cds ms (by unfold Know.un; exact List.mem_filter.2 ⟨hr', by simpa using hne⟩) hn (ih fun hq => hr (List.mem_cons_of_mem _ hq))

theorem DefRel.sub {K : Know} {ds cds ms} (h : DefRel K ds cds ms) : ∀ r ∈ ms, r ∈ K.md := by
 induction h with
 | nil => intro r hr; cases hr
 | call g args vs cap ds cds ms hv _ ih => exact ih
 | mark r' ds cds ms hr' hn _ ih =>
  intro r hr
  rcases List.mem_cons.1 hr with rfl | hr
  ·exact hr'
  ·exact ih r hr

theorem CS.un {K : Know} {r : Nat} {kind base p cs} (h : CS K kind base p cs) : CS (K.un r) kind base p cs := by
 cases h with
 | normal h => exact .normal h
 | ret c0 rest hk hb hm => exact .ret c0 rest hk hb hm
 | pan c0 rest x v r hk hb hx => exact .pan c0 rest x v r hk hb (VRel.un hx)

theorem le_un {K K' : Know} {r : Nat} (le : K.Le K') (hr : r ∉ K.md) : K.Le (K'.un r) :=
 ⟨le.base, le.ic, le.β, le.γ, le.tn, le.tk, fun r' hr' => by
  unfold Know.un
  exact List.mem_filter.2 ⟨le.md r' hr', by have : r' ≠ r := fun hq => hr (hq ▸ hr'); simpa using this⟩, le.lb⟩

section
variable {K : Know} {G : Nat → Option (List AV)} {ok : FuncId → Nat → Code → Bool} {w0 w : World} {h : Heap}

theorem putObj_chg {g : Nat} {o : Obj} (hg : g < w.heap.size) : Chg w (w.putObj g o) g o :=
 ⟨rfl, rfl, rfl, World.putObj_size, fun _ hk => World.putObj_heap_other hk, World.putObj_heap_same hg⟩

theorem Sim.drop (s : Sim K G ok w0 h w) {r : Nat} (hr : r ∈ K.md) (o : Obj) (ho : ∀ cells e f, o ≠ .cells cells e f) : Sim (K.un r) G ok w0 h (w.putObj r o) := by
 obtain ⟨hb, hm⟩ := s.md r hr
 have hlt := lt_of_heap hm
 have c := putObj_chg (o := o) hlt
 have hcells : ∀ {g : Nat} {cells : Array Value} {e : TypeId} {f : Nat × Nat}, w.heap[g]? = some (.cells cells e f) → g ≠ r := by
  rintro g cells e f hg rfl; rw [hm] at hg; cases hg
 refine ⟨s.old.trans (c.below hb), by rw [c.size]; exact s.size, fun g j x hx => ?_, fun g cs hg => ?_, s.βlen, s.βnd, fun b g cs hb' hc => ?_, s.γlen, s.γnd, fun l g rr hl hrr => ?_, s.tn, fun t ht => ?_, s.tokd, fun r' hr' => ?_, s.all⟩
 ·have hcell := s.ic g j x hx
  have hne : g ≠ r := by
   rintro rfl
   simp [World.cell?, hm] at hcell
  rw [← hcell]
  exact World.cell?_of_block (w := w) (c.other g hne)
 ·obtain ⟨cells, h1, h2⟩ := s.glob g cs hg
  exact ⟨cells, VsRel.un h1, h2⟩
 ·obtain ⟨h1, h2, ha, cells, e, h3, h4⟩ := s.box b g cs hb' hc
  exact ⟨h1, h2, ha, cells, e, (c.other g (hcells h3)).trans h3, VsRel.un h4.1, h4.2⟩
 ·obtain ⟨h1, fn, tmps, d, h2, h3, h4⟩ := s.loop l g rr hl hrr
  have hne : g ≠ r := by rintro rfl; rw [hm] at h2; cases h2
  exact ⟨h1, fn, tmps, d, (c.other g hne).trans h2, fun t => VRel.un (h3 t), h4⟩
 ·obtain ⟨h1, h2, h3, cells, e, fz, h4, h5, h6⟩ := s.tok t ht
  refine ⟨h1, h2, h3, cells, e, fz, (c.other _ (hcells h4)).trans h4, h5, fun j hj hl => ?_⟩
  rw [← h6 j hj hl]
  exact World.frozen?_of_block (w := w) (c.other _ (hcells h4))
 ·obtain ⟨h1, h2⟩ := List.mem_filter.1 hr'
  have hne : r' ≠ r := by simpa using h2
  obtain ⟨h3, h4⟩ := s.md r' h1
  exact ⟨h3, (c.other r' hne).trans h4⟩

def Know.mark (K : Know) (r : Nat) : Know := { K with md := r :: K.md }
theorem Know.le_mark (K : Know) (r : Nat) : K.Le (K.mark r) :=
 ⟨rfl, fun _ _ _ h => h, fun _ _ h => h, fun _ _ h => h, Nat.le_refl _, fun _ _ => rfl, fun _ h => List.mem_cons_of_mem _ h, fun _ _ => rfl⟩

theorem Sim.newMark (s : Sim K G ok w0 h w) : Sim (K.mark w.heap.size) G ok w0 h (w.alloc (.deferred (some []))) := by
 have le := K.le_mark w.heap.size
 have p := s.push (.deferred (some []))
 refine ⟨p.old, p.size, p.ic, fun g cs hg => ?_, p.βlen, p.βnd, fun b g cs hb hc => ?_, p.γlen, p.γnd, fun l g r hl hr => ?_, p.tn, p.tok, p.tokd, fun r hr => ?_, s.all⟩
 ·obtain ⟨cells, h1, h2⟩ := s.glob g cs hg
  exact ⟨cells, h1.mono le, h2⟩
 ·obtain ⟨h1, h2, ha, cells, e, h3, h4⟩ := p.box b g cs hb hc
  exact ⟨h1, h2, ha, cells, e, h3, h4.mono le (List.getElem?_eq_some_iff.1 hb).1⟩
 ·obtain ⟨h1, fn, tmps, d, h2, h3, h4⟩ := p.loop l g r hl hr
  exact ⟨h1, fn, tmps, d, h2, h3.mono le, h4⟩
 ·rcases List.mem_cons.1 hr with rfl | hr
  ·exact ⟨s.size, World.alloc_heap_new w _⟩
  ·exact p.md r hr

def Know.loop (K : Know) (g : Nat) : Know := { K with γ := K.γ ++ [g] }
theorem Know.le_loop (K : Know) (g : Nat) : K.Le (K.loop g) :=
 ⟨rfl, fun _ _ _ h => h, fun _ _ h => h, fun _ _ h => getElem?_snoc_old h, Nat.le_refl _, fun _ _ => rfl, fun _ h => h, fun _ _ => rfl⟩

theorem Sim.newLoop (s : Sim K G ok w0 h w) {r : LoopRec} {fn : FuncId} {tmps : Array Value} (d : Nat) (hs : SlotsRel K r.tmps tmps) (h1 : ok fn tmps.size r.assign = true) (h2 : ok fn tmps.size r.body = true) (h3 : ∀ p ∈ r.params.toList, p < tmps.size) :
 Sim (K.loop w.heap.size) G ok w0 { h with loops := h.loops ++ [r] } (w.alloc (.loop { state := r.state, pending := r.pending, fn, tmps, params := r.params, assign := r.assign, body := r.body, defers := d })) ∧
 (K.loop w.heap.size).γ[h.loops.length]? = some w.heap.size := by
 have le := K.le_loop w.heap.size
 have p := s.push (.loop { state := r.state, pending := r.pending, fn, tmps, params := r.params, assign := r.assign, body := r.body, defers := d })
 have hnew : (K.loop w.heap.size).γ[h.loops.length]? = some w.heap.size := by simp [Know.loop, ← s.γlen]
 have hlt : ∀ {l g : Nat}, K.γ[l]? = some g → g < w.heap.size := fun {l g} hl => by
  have hll : l < h.loops.length := by rw [← s.γlen]; exact (List.getElem?_eq_some_iff.1 hl).1
  obtain ⟨_, _, _, _, h3, _⟩ := s.loop l g _ hl (List.getElem?_eq_getElem hll)
  exact lt_of_heap h3
 refine ⟨⟨p.old, p.size, p.ic, fun g cs hg => ?_, p.βlen, p.βnd, fun b g cs hb hc => ?_, by simp [Know.loop, s.γlen], fun l l' g hl hl' => ?_, fun l g r' hl hr => ?_, p.tn, p.tok, p.tokd, p.md, s.all⟩, hnew⟩
 ·obtain ⟨cells, h1, h2⟩ := s.glob g cs hg
  exact ⟨cells, h1.mono le, h2⟩
 ·obtain ⟨h1, h2, ha, cells, e, h3, h4⟩ := p.box b g cs hb hc
  exact ⟨h1, h2, ha, cells, e, h3, h4.mono le (List.getElem?_eq_some_iff.1 hb).1⟩
 ·rcases getElem?_snoc hl with hb | ⟨rfl, rfl⟩ <;> rcases getElem?_snoc hl' with hb' | ⟨rfl, h2⟩
  ·exact s.γnd _ _ _ hb hb'
  ·have := hlt hb; omega
  ·have := hlt hb'; omega
  ·rfl
 ·rcases getElem?_snoc hl with hl | ⟨rfl, rfl⟩
  ·rcases getElem?_snoc hr with hr | ⟨rfl, rfl⟩
   ·obtain ⟨h1, fn', tmps', d', h2, h3, h4⟩ := p.loop l g r' hl hr
    exact ⟨h1, fn', tmps', d', h2, h3.mono le, h4⟩
   ·have : h.loops.length < K.γ.length := (List.getElem?_eq_some_iff.1 hl).1
    have := s.γlen; omega
  ·have : r' = r := by
    rw [s.γlen] at hr; simp at hr; exact hr.symm
   subst this
   exact ⟨s.size, fn, tmps, d, World.alloc_heap_new w _, hs.mono le, h1, h2, h3⟩

theorem Sim.setLoop (s : Sim K G ok w0 h w) {l g : Nat} {r : LoopRec} (hl : K.γ[l]? = some g) (hr : h.loops[l]? = some r) (st : LoopState) (pe : Option Code) :
 ∃ m : Loop, w.heap[g]? = some (.loop m) ∧ m.state = r.state ∧ m.pending = r.pending ∧ m.params = r.params ∧ m.assign = r.assign ∧ m.body = r.body ∧ SlotsRel K r.tmps m.tmps ∧
  ok m.fn m.tmps.size r.assign = true ∧ ok m.fn m.tmps.size r.body = true ∧ (∀ p ∈ r.params.toList, p < m.tmps.size) ∧
  Sim K G ok w0 { h with loops := h.loops.set l { r with state := st, pending := pe } } (w.putObj g (.loop { m with state := st, pending := pe })) := by
 obtain ⟨k1, fn, tmps, d, k2, k3, k4, k5, k6⟩ := s.loop l g r hl hr
 have hll : l < h.loops.length := (List.getElem?_eq_some_iff.1 hr).1
 refine ⟨_, k2, rfl, rfl, rfl, rfl, rfl, k3, k4, k5, k6, ?_⟩
 have c := putObj_chg (o := .loop { state := st, pending := pe, fn, tmps, params := r.params, assign := r.assign, body := r.body, defers := d }) (lt_of_heap k2)
 have hcells : ∀ {g' : Nat} {cells : Array Value} {e : TypeId} {f : Nat × Nat}, w.heap[g']? = some (.cells cells e f) → g' ≠ g := by
  rintro g' cells e f hg rfl; rw [k2] at hg; cases hg
 refine ⟨s.old.trans (c.below k1), by rw [c.size]; exact s.size, fun g' j x hx => ?_, s.glob, s.βlen, s.βnd, fun b g' cs hb' hc => ?_, by simp [s.γlen], s.γnd, fun l' g' rr hl' hrr => ?_, s.tn, fun t ht => ?_, s.tokd, fun r' hr' => ?_, s.all⟩
 ·have hcell := s.ic g' j x hx
  have hne : g' ≠ g := by
   rintro rfl
   simp [World.cell?, k2] at hcell
  rw [← hcell]
  exact World.cell?_of_block (w := w) (c.other g' hne)
 ·obtain ⟨h1, h2, ha, cells, e, h3, h4⟩ := s.box b g' cs hb' hc
  exact ⟨h1, h2, ha, cells, e, (c.other g' (hcells h3)).trans h3, h4⟩
 ·simp only [List.getElem?_set] at hrr
  split at hrr
  ·rename_i heq; subst heq
   injection hrr with hrr; subst hrr
   rw [hl] at hl'; injection hl' with hl'; subst hl'
   exact ⟨k1, fn, tmps, d, c.this, k3, k4, k5, k6⟩
  ·rename_i hne
   have hgg : g' ≠ g := by rintro rfl; exact hne (s.γnd _ _ _ hl hl')
   obtain ⟨h1, fn', tmps', d', h2, h3, h4⟩ := s.loop l' g' rr hl' hrr
   exact ⟨h1, fn', tmps', d', (c.other g' hgg).trans h2, h3, h4⟩
 ·obtain ⟨h1, h2, h3, cells, e, fz, h4, h5, h6⟩ := s.tok t ht
  refine ⟨h1, h2, h3, cells, e, fz, (c.other _ (hcells h4)).trans h4, h5, fun j hj hl => ?_⟩
  rw [← h6 j hj hl]
  exact World.frozen?_of_block (w := w) (c.other _ (hcells h4))
 ·obtain ⟨h1, h2⟩ := s.md r' hr'
  have hne : r' ≠ g := by rintro rfl; rw [k2] at h2; cases h2
  exact ⟨h1, (c.other r' hne).trans h2⟩

end
end Go.AE
end

section
namespace Go.AE
section
variable {K : Know} {G : Nat → Option (List AV)} {ok : FuncId → Nat → Code → Bool} {w0 w : World} {h : Heap}
theorem Sim.adopt (s : Sim K G ok w0 h w) {g : Nat} {cs : List AV} {cells : Array Value} {e : TypeId} (hg : w.heap[g]? = some (.cells cells e (0, 0))) (hb0 : K.base ≤ g) (hβ : ∀ b : Nat, K.β[b]? ≠ some g) (hic : ∀ j, K.ic g j = none) (htk : ∀ t, alive h t = true → (K.tk t).1 ≠ g)
 (hv : VsRel K cs cells.toList) (hac : cs.all AV.isCell = true) : Sim (K.box g) G ok w0 { h with boxes := h.boxes ++ [cs] } w ∧ VRel (K.box g) (.ptr (.box h.boxes.length) 0) (.pointer (some ⟨g, 0, none⟩)) := by
 have le := K.le_box g
 have hnew : (K.box g).β[h.boxes.length]? = some g := by simp [Know.box, Know.boxL, ← s.βlen]
 refine ⟨⟨s.old, s.size, s.ic, fun g' cs' hg' => ?_, by simp [Know.box, Know.boxL, s.βlen], fun b b' g' hb hb' => ?_, fun b g' cs' hb hc => ?_, s.γlen, s.γnd, fun l g' r hl hr => ?_, s.tn, fun t ht => ?_, s.tokd, s.md, s.all⟩, .box _ _ _ hnew⟩
 ·obtain ⟨cells', h1, h2⟩ := s.glob g' cs' hg'
  exact ⟨cells', h1.mono le, h2⟩
 ·rcases getElem?_snoc hb with p | ⟨p1, p2⟩ <;> rcases getElem?_snoc hb' with q | ⟨q1, q2⟩
  ·rcases s.βnd _ _ _ p q with r | r | r
   ·exact .inl r
   ·exact .inr (.inl (getElem?_snoc_old r))
   ·exact .inr (.inr (getElem?_snoc_old r))
  ·rw [← q2] at hβ; exact absurd p (hβ b)
  ·rw [← p2] at hβ; exact absurd q (hβ b')
  ·exact .inl (by omega)
 ·rcases getElem?_snoc hb with hb | ⟨rfl, rfl⟩
  ·rcases getElem?_snoc hc with hc | ⟨rfl, rfl⟩
   ·obtain ⟨h1, h2, ha, cells', e', h3, h4⟩ := s.box b g' cs' hb hc
    exact ⟨h1, h2, ha, cells', e', h3, h4.mono le (List.getElem?_eq_some_iff.1 hb).1⟩
   ·have : h.boxes.length < K.β.length := (List.getElem?_eq_some_iff.1 hb).1
    have := s.βlen; omega
  ·have : cs' = cs := by
    rw [s.βlen] at hc; simp at hc; exact hc.symm
   subst this
   refine ⟨hb0, hic, hac, cells, e, hg, hv.whole.mono le, fun N sz room q => ?_⟩
   have q2 : (if K.β.length = K.β.length then (none : Option (Nat × Nat × Nat)) else K.lb K.β.length) = some (N, sz, room) := q
   rw [if_pos rfl] at q2; cases q2
 ·obtain ⟨h1, fn, tmps, d, h2, h3, h4⟩ := s.loop l g' r hl hr
  exact ⟨h1, fn, tmps, d, h2, h3.mono le, h4⟩
 ·obtain ⟨h1, h2, h3, cells', e', fz, h4, h5⟩ := s.tok t ht
  refine ⟨h1, fun b hb => ?_, h3, cells', e', fz, h4, h5⟩
  rcases getElem?_snoc hb with hb | ⟨_, hb⟩
  ·exact h2 b hb
  ·exact htk t ht hb
end
end Go.AE
end

section
namespace Go.AE
open Go.RowKit (Below)

section
variable {P : Program} {G : Nat → Option (List AV)} {w0 : World} {R : Rec}

theorem Steps.tail {m m1 m2 : Machine} (h : step P m = .next m1) (hs : Steps P m m2) (hne : m ≠ m2) : Steps P m1 m2 := by
 obtain ⟨n, hn⟩ := hs
 cases n with
 | zero => simp [runN] at hn; exact absurd hn hne
 | succ n => simp only [runN, h] at hn; exact ⟨n, hn⟩

theorem lone_inj {fr fr' : Frame} {cs cs' : List Frame} {w w' : World} (h : lone fr cs w = lone fr' cs' w') : fr = fr' := by
 unfold lone at h
 simp only [Machine.mk.injEq, Array.mk.injEq, List.cons.injEq, Goroutine.mk.injEq] at h
 exact h.2.1.1.1

theorem Arr.swap {K : Know} {m m1 m' : Machine} {B : Frame} {k : List Item} {c : Code} {cs cs0 : List Frame} {x : Xt} {a a0 : Act} {w wz : World} (hc : ∀ id, c ≠ .exit id) (hc2 : c ≠ .ret) (hm : m = lone (B.atR a0 (.code c :: k)) cs0 wz)
 (h1 : step P m = .next m1) (h2 : step P m' = .next m1) (h : Arr P K m B k cs x a w) : Arr P K m' B k cs x a w := by
 refine Arr.of_steps (.one h2) ?_
 cases x with
 | normal =>
  refine Steps.tail h1 h ?_
  rw [hm]
  intro hq
  have := congrArg Frame.todo (lone_inj hq)
  simp only [Frame.atR] at this
  exact absurd (congrArg List.length this) (by simp)
 | exit id =>
  obtain ⟨t, e1, e2⟩ := h
  refine ⟨t, e1, Steps.tail h1 e2 ?_⟩
  rw [hm]
  intro hq
  have := congrArg Frame.todo (lone_inj hq)
  simp only [Frame.atR, List.cons.injEq, Item.code.injEq] at this
  exact hc id this.1
 | ret =>
  obtain ⟨t, e2⟩ := h
  refine ⟨t, Steps.tail h1 e2 ?_⟩
  rw [hm]
  intro hq
  have := congrArg Frame.todo (lone_inj hq)
  simp only [Frame.atR, List.cons.injEq, Item.code.injEq] at this
  exact hc2 this.1
 | panic x =>
  obtain ⟨t, v, e1, e2⟩ := h
  refine ⟨t, v, e1, Steps.tail h1 e2 ?_⟩
  rw [hm]
  intro hq
  have := congrArg Frame.mode (lone_inj hq)
  simp [Frame.atR] at this

theorem Left.refl {K : Know} {w : World} {a : Act} {B : Frame} {ms : List Nat} {base cs : List Frame} {k : List Item} {m : Machine} {out : Xt} {e : Env} {h : Heap} (hf : FrameOk P K e a B ms) (hcs : CS K B.kind base e.pan cs) (hs : SimP P G w0 K h w) (ha : Arr P K m B k cs out a w) :
 Left P G w0 K ms B base m k a.tmps.size out e h K w a cs ms :=
 ⟨.refl K, hs, hf, hcs, rfl, fun _ hr => .inl hr, ha⟩

theorem Left.of_steps {K K' : Know} {w' : World} {a' : Act} {B : Frame} {ms ms' : List Nat} {base cs' : List Frame} {k : List Item} {m m1 : Machine} {out : Xt} {e' : Env} {h' : Heap} {n : Nat} (hs : Steps P m m1) (L : Left P G w0 K ms B base m1 k n out e' h' K' w' a' cs' ms') :
 Left P G w0 K ms B base m k n out e' h' K' w' a' cs' ms' :=
 ⟨L.le, L.sim, L.frame, L.cs, L.size, L.marks, L.arr.of_steps hs⟩

theorem ops_sim (hn : PlainNames P) (hR : SimRec P G w0 R) {ops : Array Oper} : ∀ (l : List Nat) (e : Env) (h : Heap) (out : Xt) (e' : Env) (h' : Heap), opsEv P G R ops l e h = some (out, e', h') →
 ∀ (K : Know) (w : World) (a : Act) (B : Frame) (k : List Item) (base cs : List Frame) (ms : List Nat), FrameOk P K e a B ms → CS K B.kind base e.pan cs → SimP P G w0 K h w → opsOk a.tmps.size ops = true →
 ∃ K' w' a' cs', Left P G w0 K ms B base (lone (B.atR a (.inRegion ops l :: k)) cs w) k a.tmps.size out e' h' K' w' a' cs' ms := by
 intro l
 induction l with
 | nil =>
  intro e h out e' h' he K w a B k base cs ms hf hcs hs hops
  simp only [opsEv, Option.some.injEq, Prod.mk.injEq] at he
  obtain ⟨rfl, rfl, rfl⟩ := he
  exact ⟨K, w, a, cs, .refl hf hcs hs (.one stepR_region_end)⟩
 | cons i rest ih =>
  intro e h out e' h' he K w a B k base cs ms hf hcs hs hops
  simp only [opsEv] at he
  cases ho : ops[i]? with
  | none => rw [ho] at he; cases he
  | some o =>
   rw [ho] at he
   simp only at he
   have hdst := opsOk_dst hops ho
   cases hw : wantedA ops e o with
   | none => rw [hw] at he; cases he
   | some b =>
    rw [hw] at he
    have hwm := wanted_rel hf.slots hops hw
    cases b with
    | false =>
     simp only at he
     have hstep := stepR_op_skip (P := P) (b := B) (a := a) (k := k) (cs := cs) (w := w) (ops := ops) (i := i) (rest := rest) (by rw [ho]; simpa using hwm)
     have hb : (ops[i]?).bind (·.dst) = o.dst := by rw [ho]; rfl
     rw [hb] at hstep
     obtain ⟨K', w', a', cs', L⟩ := ih _ _ _ _ _ he K w (a.put o.dst undef) B k base cs ms (hf.put hdst (.tuple [] #[] .nil)) (by cases o.dst <;> exact hcs) hs (by rw [put_size]; exact hops)
     rw [put_size] at L
     exact ⟨K', w', a', cs', .of_steps (.one hstep) L⟩
    | true =>
     simp only at he
     cases hop : opEv P G R e h o with
     | none => rw [hop] at he; cases he
     | some q =>
      obtain ⟨r, e1, h1⟩ := q
      rw [hop] at he
      obtain ⟨K1, w1, a1, cs1, le1, s1, f1, c1, z1, hres⟩ := op_sim (i := i) (rest := rest) hn hR hop hf hcs hs ho hwm k
      cases r with
      | ret x =>
       obtain ⟨v, hx, hst⟩ := hres
       simp only at he
       obtain ⟨K', w', a', cs', L⟩ := ih _ _ _ _ _ he K1 w1 (a1.put o.dst v) B k base cs1 ms (f1.put (by rw [z1]; exact hdst) hx) (by cases o.dst <;> exact c1) s1 (by rw [put_size, z1]; exact hops)
       rw [put_size, z1] at L
       refine ⟨K', w', a', cs', le1.trans L.le, L.sim, L.frame, L.cs, L.size, fun r hr => .inl hr, L.arr.of_steps hst⟩
      | panic x =>
       obtain ⟨v, todo, hx, hst⟩ := hres
       simp only [Option.some.injEq, Prod.mk.injEq] at he
       obtain ⟨rfl, rfl, rfl⟩ := he
       exact ⟨K1, w1, a1, cs1, le1, s1, f1, c1, z1, fun r hr => .inl hr, todo, v, hx, hst⟩

theorem FrameOk.same {K : Know} {e e2 : Env} {a : Act} {B : Frame} {ms : List Nat} (hf : FrameOk P K e a B ms) (hs : Same e e2) : FrameOk P K e2 a B ms := by
 refine ⟨fun t => ?_, hs.defers ▸ hf.defers, ?_, hf.fn⟩
 ·have := hs.slots t
  unfold Env.get at this
  rw [← this]; exact hf.slots t
 ·have := hf.round
  rw [hs.round, hs.defers] at this
  exact this

theorem FrameOk.near {K : Know} {e e2 : Env} {a : Act} {B : Frame} {ms : List Nat} {ops : Array Oper} {k : Nat} (hf : FrameOk P K e2 a B ms) (hs : Near ops k e e2) : FrameOk P K (dim ops k e) a B ms := by
 refine ⟨fun t => ?_, hs.defers ▸ hf.defers, ?_, hf.fn⟩
 ·rcases dim_get (ops := ops) (k := k) e t with q | ⟨q, q2⟩
  ·have q : (dim ops k e).tmps.get t = .bad := q
   rw [q]; exact .bad _
  ·have q : (dim ops k e).tmps.get t = e.get t := q
   have := hs.slots t q2
   rw [q, this]
   exact hf.slots t
 ·have := hf.round
  rw [← hs.round, ← hs.defers] at this
  exact this
theorem mem_drop_ok {n : Nat} {ps : Array Tmp} (h : (ps.all fun p => decide (p < n)) = true) : ∀ p ∈ ps.toList, p < n := by
 intro p hp
 rw [Array.all_eq_true'] at h
 simpa using h p (Array.mem_toList_iff.1 hp)

end
end Go.AE
end

section
namespace Go.AE
open Go.RowKit (Below)
section
variable {P : Program} {G : Nat → Option (List AV)} {w0 : World} {R : Rec}
theorem pre_sim (hn : PlainNames P) (hR : SimRec P G w0 R) {ops : Array Oper} : ∀ (l : List Nat) (e : Env) (h : Heap) (e' : Env) (h' : Heap), opsEv P G R ops l e h = some (.normal, e', h') →
 ∀ (K : Know) (w : World) (a : Act) (B : Frame) (k : List Item) (base cs : List Frame) (ms : List Nat) (rest : List Nat), FrameOk P K e a B ms → CS K B.kind base e.pan cs → SimP P G w0 K h w → opsOk a.tmps.size ops = true →
 ∃ K' w' a' cs', K.Le K' ∧ SimP P G w0 K' h' w' ∧ FrameOk P K' e' a' B ms ∧ CS K' B.kind base e'.pan cs' ∧ a'.tmps.size = a.tmps.size ∧ Steps P (lone (B.atR a (.inRegion ops (l ++ rest) :: k)) cs w) (lone (B.atR a' (.inRegion ops rest :: k)) cs' w') := by
 intro l
 induction l with
 | nil =>
  intro e h e' h' he K w a B k base cs ms rest hf hcs hs hops
  simp only [opsEv, Option.some.injEq, Prod.mk.injEq, true_and] at he
  obtain ⟨rfl, rfl⟩ := he
  exact ⟨K, w, a, cs, .refl K, hs, hf, hcs, rfl, ⟨0, rfl⟩⟩
 | cons i l ih =>
  intro e h e' h' he K w a B k base cs ms rest hf hcs hs hops
  simp only [opsEv] at he
  cases ho : ops[i]? with
  | none => rw [ho] at he; cases he
  | some o =>
   rw [ho] at he
   simp only at he
   have hdst := opsOk_dst hops ho
   cases hw : wantedA ops e o with
   | none => rw [hw] at he; cases he
   | some b =>
    rw [hw] at he
    have hwm := wanted_rel hf.slots hops hw
    cases b with
    | false =>
     simp only at he
     have hstep := stepR_op_skip (P := P) (b := B) (a := a) (k := k) (cs := cs) (w := w) (ops := ops) (i := i) (rest := l ++ rest) (by rw [ho]; simpa using hwm)
     have hb : (ops[i]?).bind (·.dst) = o.dst := by rw [ho]; rfl
     rw [hb] at hstep
     obtain ⟨K', w', a', cs', g1, g2, g3, g4, g5, g6⟩ := ih _ _ _ _ he K w (a.put o.dst undef) B k base cs ms rest (hf.put hdst (.tuple [] #[] .nil)) (by cases o.dst <;> exact hcs) hs (by rw [put_size]; exact hops)
     rw [put_size] at g5
     exact ⟨K', w', a', cs', g1, g2, g3, g4, g5, (Steps.one hstep).trans g6⟩
    | true =>
     simp only at he
     cases hop : opEv P G R e h o with
     | none => rw [hop] at he; cases he
     | some q =>
      obtain ⟨r, e1, h1⟩ := q
      rw [hop] at he
      obtain ⟨K1, w1, a1, cs1, le1, s1, f1, c1, z1, hres⟩ := op_sim (i := i) (rest := l ++ rest) hn hR hop hf hcs hs ho hwm k
      cases r with
      | ret x =>
       obtain ⟨v, hx, hst⟩ := hres
       simp only at he
       obtain ⟨K', w', a', cs', g1, g2, g3, g4, g5, g6⟩ := ih _ _ _ _ he K1 w1 (a1.put o.dst v) B k base cs1 ms rest (f1.put (by rw [z1]; exact hdst) hx) (by cases o.dst <;> exact c1) s1 (by rw [put_size, z1]; exact hops)
       rw [put_size, z1] at g5
       exact ⟨K', w', a', cs', le1.trans g1, g2, g3, g4, g5, hst.trans g6⟩
      | panic x => simp at he
theorem alloc_run {K : Know} {ok : FuncId → Nat → Code → Bool} {h : Heap} {w : World} (s : Sim K G ok w0 h w) {t : TypeId} {cs : List AV} (hz : (zeroA P t).bind AV.cellsO = some cs) :
 ∃ cells : Array Value, VsRel K cs cells.toList ∧ cs.all AV.isCell = true ∧ (Instr.alloc t true (.tuple #[])).run P w = .ok (.pointer (some ⟨w.heap.size, 0, none⟩)) { w with heap := w.heap.push (.cells cells t) } := by
 obtain ⟨z, hz1, hz2, hz3⟩ := zero_rel (K := K) hz w
 exact ⟨z.cells, hz2, hz3, by simp [Instr.alloc, hz1, newVar, newRow]⟩
structure But (d : Tmp) (e eh : Env) : Prop where
 slots : ∀ t, t ≠ d → e.get t = eh.get t
 defers : e.defers = eh.defers
 pan : e.pan = eh.pan
 round : e.round = eh.round
def loadBut (ops : Array Oper) (d : Tmp) (m : Nat) : Prop := ∃ o t x, ops[m]? = some o ∧ o.op = .load t x ∧ o.guard = none ∧ x ≠ .tmp d ∧ o.dst ≠ some d
theorem But.eval {d : Tmp} {e eh : Env} (b : But d e eh) {x : Operand} (hx : x ≠ .tmp d) : e.eval x = eh.eval x := by
 cases x with
 | tmp t => exact b.slots t fun q => hx (by rw [q])
 | _ => rfl
theorem loads_sim {K : Know} {ops : Array Oper} {w : World} {B : Frame} {k : List Item} {cs : List Frame} {ms rest : List Nat} {d : Tmp} {v2 : Value} : ∀ (mid : List Nat) (e eh : Env) (h : Heap) (em : Env) (hm : Heap) (a : Act), opsEv P G R ops mid e h = some (.normal, em, hm) → But d e eh → SimP P G w0 K h w → FrameOk P K eh a B ms → opsOk a.tmps.size ops = true →
 a.tmps.getD d undef = v2 → (∀ m ∈ mid, loadBut ops d m) → ∃ ehm am, hm = h ∧ But d em ehm ∧ FrameOk P K ehm am B ms ∧ am.tmps.getD d undef = v2 ∧ am.tmps.size = a.tmps.size ∧ Steps P (lone (B.atR a (.inRegion ops (mid ++ rest) :: k)) cs w) (lone (B.atR am (.inRegion ops rest :: k)) cs w) := by
 intro mid
 induction mid with
 | nil =>
  intro e eh h em hm a he hb hs hf hops hv hl
  simp only [opsEv, Option.some.injEq, Prod.mk.injEq, true_and] at he
  obtain ⟨rfl, rfl⟩ := he
  exact ⟨eh, a, rfl, hb, hf, hv, rfl, ⟨0, rfl⟩⟩
 | cons m mid ih =>
  intro e eh h em hm a he hb hs hf hops hv hl
  obtain ⟨o, t, x, ho, hop, hg, hx, hd⟩ := hl m List.mem_cons_self
  simp only [opsEv, ho, wantedA, hg] at he
  have hpl : opEv P G R e h o = (loadEv P G h t (e.eval x)).map fun y => (.ret y, e, h) := by
   unfold opEv
   rw [hop]
   simp [plainEv]
   rfl
  rw [hpl] at he
  cases hy : loadEv P G h t (e.eval x) with
  | none => rw [hy] at he; cases he
  | some y =>
   rw [hy] at he
   simp only [Option.map_some] at he
   rw [hb.eval hx] at hy
   obtain ⟨g, p, v, q1, q2, q3⟩ := load_rel hs hy (eval_rel hf.slots x)
   have hdst := opsOk_dst hops ho
   have hstep : step P (lone (B.atR a (.inRegion ops (m :: (mid ++ rest)) :: k)) cs w) = .next (lone (B.atR (a.put o.dst v) (.inRegion ops (mid ++ rest) :: k)) cs w) := by
    refine step_value ho (by unfold Region.wanted; rw [hg]) ?_
    rw [Oper.semAt_eq B.roundOf a.eval o (by rw [hop]; intro c; simp)]
    unfold execOp
    rw [hop]
    simp only [q1, Instr.loadAt, Instr.sureAddr, Sem.run_bind, q2, Result.andThen_ok, Sem.run_pure]
   obtain ⟨ehm, am, g1, g2, g3, g4, g5, g6⟩ := ih (e.put o.dst y) (eh.put o.dst y) h em hm (a.put o.dst v) he ⟨fun t ht => by rw [put_get, put_get, hb.slots t ht], by cases o.dst <;> exact hb.defers, by cases o.dst <;> exact hb.pan, by cases o.dst <;> exact hb.round⟩ hs (hf.put hdst q3) (by rw [put_size]; exact hops)
    (by
     rw [← hv]
     cases hdd : o.dst with
     | none => rfl
     | some q =>
      have : q ≠ d := fun e => hd (by rw [hdd, e])
      simp [Act.put, Array.getD_eq_getD_getElem?, Array.getElem?_setIfInBounds, this]) (fun m hm => hl m (List.mem_cons_of_mem _ hm))
   rw [put_size] at g5
   exact ⟨ehm, am, g1, g2, g3, g4, g5, (Steps.one hstep).trans g6⟩
theorem loads_pan {ops : Array Oper} {d : Tmp} : ∀ {mid : List Nat} {e : Env} {h : Heap} {em : Env} {hm : Heap}, (∀ m ∈ mid, loadBut ops d m) → opsEv P G R ops mid e h = some (.normal, em, hm) → em.pan = e.pan := by
 intro mid
 induction mid with
 | nil =>
  intro e h em hm _ he
  simp only [opsEv, Option.some.injEq, Prod.mk.injEq, true_and] at he
  rw [← he.1]
 | cons m mid ih =>
  intro e h em hm hl he
  obtain ⟨o, t, x, ho, hop, hg, -, -⟩ := hl m List.mem_cons_self
  simp only [opsEv, ho, wantedA, hg] at he
  have hpl : opEv P G R e h o = (loadEv P G h t (e.eval x)).map fun y => (.ret y, e, h) := by
   unfold opEv
   rw [hop]
   simp [plainEv]
   rfl
  rw [hpl] at he
  cases hy : loadEv P G h t (e.eval x) with
  | none => rw [hy] at he; cases he
  | some y =>
   rw [hy] at he
   simp only [Option.map_some] at he
   have := ih (fun m hm => hl m (List.mem_cons_of_mem _ hm)) he
   rw [this]
   cases o.dst <;> rfl
theorem opEv_alloc {e : Env} {h : Heap} {o : Oper} {t : TypeId} (hop : o.op = .alloc t) : opEv P G R e h o = ((zeroA P t).bind AV.cellsO).map fun cs => (.ret (h.box cs).1, e, (h.box cs).2) := by
 unfold opEv
 rw [hop]
 simp only [plainEv]
 cases (zeroA P t).bind AV.cellsO <;> rfl
theorem swap_sim (hn : PlainNames P) (hR : SimRec P G w0 R) {ops : Array Oper} {i : Nat} {d1 d2 : Tmp} {t1 t2 : TypeId} {o1 o2 : Oper} (ho1 : ops[i]? = some o1) (ho2 : ops[i + 1]? = some o2) (p1 : o1.op = .alloc t1) (p2 : o2.op = .alloc t2) (g1 : o1.guard = none) (g2 : o2.guard = none) (q1 : o1.dst = some d1) (q2 : o2.dst = some d2) (hd : d1 ≠ d2)
 {pre mid post : List Nat} (hl : ∀ m ∈ mid, loadBut ops d2 m) {e e' : Env} {h h' : Heap} (he : opsEv P G R ops (pre ++ (mid ++ (i :: (i + 1) :: post))) e h = some (.normal, e', h')) :
 ∀ (K : Know) (w : World) (a : Act) (B : Frame) (k : List Item) (base cs : List Frame) (ms : List Nat), FrameOk P K e a B ms → CS K B.kind base e.pan cs → SimP P G w0 K h w → opsOk a.tmps.size ops = true →
 ∃ K' w' a' cs', Left P G w0 K ms B base (lone (B.atR a (.inRegion ops (pre ++ ((i + 1) :: (mid ++ (i :: post)))) :: k)) cs w) k a.tmps.size .normal e' h' K' w' a' cs' ms := by
 intro K w a B k base cs ms hf hcs hs hops
 obtain ⟨e1, h1, n1, he⟩ := opsEv_append.1 he
 obtain ⟨em, hm, n2, he3⟩ := opsEv_append.1 he
 obtain ⟨K1, w1, a1, cs1, le1, s1, f1, c1, z1, st1⟩ := pre_sim hn hR pre e h e1 h1 n1 K w a B k base cs ms ((i + 1) :: (mid ++ (i :: post))) hf hcs hs hops
 have hops1 : opsOk a1.tmps.size ops = true := by rw [z1]; exact hops
 simp only [opsEv, ho1, wantedA, g1, opEv_alloc p1] at he3
 cases hz1 : (zeroA P t1).bind AV.cellsO with
 | none => rw [hz1] at he3; cases he3
 | some cz1 =>
  rw [hz1] at he3
  simp only [Option.map_some, opsEv, ho2, wantedA, g2, opEv_alloc p2] at he3
  cases hz2 : (zeroA P t2).bind AV.cellsO with
  | none => rw [hz2] at he3; cases he3
  | some cz2 =>
   rw [hz2] at he3
   simp only [Option.map_some, q1, q2] at he3
   have hdst1 := opsOk_dst hops1 ho1
   have hdst2 := opsOk_dst hops1 ho2
   obtain ⟨cells2, v2, ac2, run2⟩ := alloc_run s1 hz2
   have sA : SimP P G w0 K1 h1 { w1 with heap := w1.heap.push (.cells cells2 t2) } := s1.push _
   have stepA : step P (lone (B.atR a1 (.inRegion ops ((i + 1) :: (mid ++ (i :: post))) :: k)) cs1 w1) = .next (lone (B.atR (a1.put o2.dst (.pointer (some ⟨w1.heap.size, 0, none⟩))) (.inRegion ops (mid ++ (i :: post)) :: k)) cs1 { w1 with heap := w1.heap.push (.cells cells2 t2) }) := by
    refine step_value ho2 (by unfold Region.wanted; rw [g2]) ?_
    rw [Oper.semAt_eq B.roundOf a1.eval o2 (by rw [p2]; intro c; simp)]
    unfold execOp
    rw [p2]
    simp only [Sem.run_bind, run2, Result.andThen_ok, Sem.run_pure]
   have fA : FrameOk P K1 (e1.put (some d2) .bad) (a1.put o2.dst (.pointer (some ⟨w1.heap.size, 0, none⟩))) B ms := by rw [q2]; exact f1.put (by rw [← q2]; exact hdst2) (.bad _)
   have hopsA : opsOk (a1.put o2.dst (.pointer (some ⟨w1.heap.size, 0, none⟩))).tmps.size ops = true := by rw [put_size]; exact hops1
   obtain ⟨ehm, am, hm1, hb, fB, hv2, zB, stB⟩ := loads_sim (rest := i :: post) (k := k) (cs := cs1) (d := d2) (v2 := .pointer (some ⟨w1.heap.size, 0, none⟩)) mid e1 (e1.put (some d2) .bad) h1 em hm _ n2
    ⟨fun t ht => by rw [put_get, if_neg (fun q => ht (by injection q with q; exact q.symm))], rfl, rfl, rfl⟩ sA fA hopsA
    (by rw [q2]; simp [Act.put, Array.getD_eq_getD_getElem?, Array.getElem?_setIfInBounds, hdst2 d2 q2]) hl
   subst hm1
   obtain ⟨cells1, v1, ac1, run1⟩ := alloc_run sA hz1
   obtain ⟨sB, r1⟩ := sA.newBox t1 v1 ac1
   have hopsB : opsOk am.tmps.size ops = true := by rw [zB]; exact hopsA
   have stepB : step P (lone (B.atR am (.inRegion ops (i :: post) :: k)) cs1 { w1 with heap := w1.heap.push (.cells cells2 t2) }) = .next (lone (B.atR (am.put o1.dst (.pointer (some ⟨(w1.heap.push (.cells cells2 t2)).size, 0, none⟩))) (.inRegion ops post :: k)) cs1 { w1 with heap := (w1.heap.push (.cells cells2 t2)).push (.cells cells1 t1) }) := by
    refine step_value ho1 (by unfold Region.wanted; rw [g1]) ?_
    rw [Oper.semAt_eq B.roundOf am.eval o1 (by rw [p1]; intro c; simp)]
    unfold execOp
    rw [p1]
    simp only [Sem.run_bind, run1, Result.andThen_ok, Sem.run_pure]
   have leB := K1.le_box (w1.heap.push (.cells cells2 t2)).size
   have blt : ∀ {b g : Nat}, K1.β[b]? = some g → g < w1.heap.size := fun {b g} hb => by
    have hbl : b < hm.boxes.length := by rw [← s1.βlen]; exact (List.getElem?_eq_some_iff.1 hb).1
    obtain ⟨_, _, _, _, _, h3, _⟩ := s1.box b g _ hb (List.getElem?_eq_getElem hbl)
    exact lt_of_heap h3
   have ad := sB.adopt (g := w1.heap.size) (cs := cz2) (cells := cells2) (e := t2) (by simp [Array.getElem?_push]) s1.size
    (fun b hb => by
     rcases getElem?_snoc hb with p | ⟨-, p⟩
     ·have := blt p; omega
     ·simp at p)
    (fun j => by
     cases hc : K1.ic w1.heap.size j with
     | none => exact hc
     | some c => have := s1.lt_of_cell hc; omega)
    (fun t ht hq => by
     obtain ⟨_, _, _, _, _, _, h4, _⟩ := s1.tok t ht
     have := lt_of_heap h4
     have hq : (K1.tk t).1 = w1.heap.size := hq
     omega)
    (v2.mono leB) ac2
   obtain ⟨sC, r2⟩ := ad
   have leC := (K1.box (w1.heap.push (.cells cells2 t2)).size).le_box w1.heap.size
   have fC : FrameOk P ((K1.box (w1.heap.push (.cells cells2 t2)).size).box w1.heap.size) ((em.put (some d1) (hm.box cz1).1).put (some d2) ((hm.box cz1).2.box cz2).1) (am.put o1.dst (.pointer (some ⟨(w1.heap.push (.cells cells2 t2)).size, 0, none⟩))) B ms := by
    have fB' := fB.mono (leB.trans leC)
    have hm2 := fB'.put (x := (hm.box cz1).1) (v := .pointer (some ⟨(w1.heap.push (.cells cells2 t2)).size, 0, none⟩)) (dst := o1.dst) (by rw [zB, put_size]; exact hdst1) (r1.mono leC)
    refine ⟨fun t => ?_, ?_, ?_, hm2.fn⟩
    ·by_cases ht : t = d2
     ·subst ht
      have : (((em.put (some d1) (hm.box cz1).1).put (some t) ((hm.box cz1).2.box cz2).1)).tmps.get t = ((hm.box cz1).2.box cz2).1 := (put_get _ (some t) _ t).trans (if_pos rfl)
      rw [this, q1]
      have : (am.put (some d1) (.pointer (some ⟨(w1.heap.push (.cells cells2 t2)).size, 0, none⟩))).tmps.getD t undef = am.tmps.getD t undef := by simp [Act.put, Array.getD_eq_getD_getElem?, Array.getElem?_setIfInBounds, hd]
      rw [this, hv2]
      exact r2
     ·have h3 := hm2.slots t
      have : (((em.put (some d1) (hm.box cz1).1).put (some d2) ((hm.box cz1).2.box cz2).1)).tmps.get t = (ehm.put o1.dst (hm.box cz1).1).tmps.get t := by
       refine (put_get _ (some d2) _ t).trans ?_
       rw [if_neg (fun q => ht (by injection q with q; exact q.symm)), q1]
       refine (put_get _ (some d1) _ t).trans ?_
       refine Eq.trans ?_ (put_get ehm (some d1) _ t).symm
       rw [hb.slots t ht]
      rw [this]
      exact h3
    ·have h3 := hm2.defers
     rw [q1] at h3 ⊢
     show DefRel _ em.defers _ _
     rw [hb.defers]
     exact h3
    ·have h3 := hm2.round
     rw [q1] at h3 ⊢
     show match em.round with | none => _ | some l => ∃ g, _ ∧ _ ∧ _ ∧ _ ∧ _ ∧ em.defers = []
     rw [hb.round, hb.defers]
     exact h3
   have cC : CS ((K1.box (w1.heap.push (.cells cells2 t2)).size).box w1.heap.size) B.kind base ((em.put (some d1) (hm.box cz1).1).put (some d2) ((hm.box cz1).2.box cz2).1).pan cs1 := by
    have : em.pan = e1.pan := loads_pan hl n2
    show CS _ _ _ em.pan _
    rw [this]
    exact c1.mono (leB.trans leC)
   obtain ⟨K', w', a', cs', L⟩ := ops_sim hn hR post _ _ _ _ _ he3 _ _ _ B k base cs1 ms fC cC sC (by rw [put_size]; exact hopsB)
   rw [put_size, zB, put_size, z1] at L
   exact ⟨K', w', a', cs', le1.trans (leB.trans (leC.trans L.le)), L.sim, L.frame, L.cs, L.size, fun r hr => .inl hr, L.arr.of_steps (((st1.trans (Steps.one stepA)).trans stB).trans (Steps.one stepB))⟩
end
end Go.AE
end

section
namespace Go.AE
section
variable {ops : Array Oper} {i : Nat}
theorem loadB_but {d m : Nat} (h : loadB ops d m = true) : loadBut ops d m := by
 unfold loadB at h
 cases ho : ops[m]? with
 | none => rw [ho] at h; cases h
 | some o =>
  rw [ho] at h
  simp only [Bool.and_eq_true] at h
  obtain ⟨h1, h2, h3⟩ := h
  cases hop : o.op <;> rw [hop] at h1 <;> simp only [Bool.false_eq_true] at h1
  rename_i t x
  refine ⟨o, t, x, ho, hop, by simpa using h2, ?_, ?_⟩
  ·intro q; subst q; simp at h1
  ·intro q; rw [q] at h3; simp at h3
theorem edgeOn_spec {k j : Nat} : edgeOn ops k j = true ↔ ∃ o ed, ops[k]? = some o ∧ ed ∈ o.after ∧ Region.binds .any ed = true ∧ ed.on = j := by
 unfold edgeOn
 cases ho : ops[k]? with
 | none => simp
 | some o =>
  simp only [Array.any_eq_true', Bool.and_eq_true]
  constructor
  ·rintro ⟨ed, h1, h2, h3⟩; exact ⟨o, ed, rfl, h1, h2, Nat.eq_of_beq_eq_true h3⟩
  ·rintro ⟨o', ed, h0, h1, h2, h3⟩
   injection h0 with h0
   subst h0
   exact ⟨ed, h1, h2, by rw [h3]; exact Nat.beq_refl j⟩
theorem ready_edgeOn {S : Nat → Bool} {k j : Nat} (hr : Ready ops S k) (h : edgeOn ops k j = true) : S j = true := by
 obtain ⟨o, ed, h1, h2, h3, rfl⟩ := edgeOn_spec.1 h
 exact hr o h1 ed h2 h3
theorem ready_mono {S S' : Nat → Bool} {k : Nat} (hr : Ready ops S k) (h : ∀ j, S j = true → S' j = true) : Ready ops S' k := fun o ho ed hed hb => h _ (hr o ho ed hed hb)
theorem ready_less {S : Nat → Bool} {k j : Nat} (hr : Ready ops (listOne S j) k) (h : edgeOn ops k j = false) : Ready ops S k := by
 intro o ho ed hed hb
 have := hr o ho ed hed hb
 unfold listOne at this
 split at this
 ·rename_i hq
  exfalso
  have : edgeOn ops k j = true := edgeOn_spec.2 ⟨o, ed, ho, hed, hb, hq⟩
  rw [h] at this; cases this
 ·exact this
theorem one_comm (S : Nat → Bool) (a b : Nat) : listOne (listOne S a) b = listOne (listOne S b) a := by
 funext j
 unfold listOne
 by_cases h1 : j = a <;> by_cases h2 : j = b <;> simp [h1, h2]
structure SwapFacts (ops : Array Oper) (i : Nat) (d2 : Tmp) : Prop where
 lt : i + 1 < ops.size
 no : edgeOn ops i (i + 1) = false
 all : ∀ k, k < ops.size → k ≠ i → k ≠ i + 1 → edgeOn ops (i + 1) k = true ∨ edgeOn ops k i = true ∨ (loadB ops d2 k = true ∧ edgeOn ops k (i + 1) = false)
variable {d2 : Tmp}
theorem mid_lists (F : SwapFacts ops i d2) : ∀ (L : List Nat) (S : Nat → Bool), S i = false → S (i + 1) = false → Ready ops S (i + 1) → Lists ops (listOne S (i + 1)) L →
 ∃ mid post, L = mid ++ i :: post ∧ (∀ m ∈ mid, loadBut ops d2 m) ∧ Lists (edgeA ops i) S (mid ++ i :: (i + 1) :: post) := by
 intro L
 induction L with
 | nil =>
  intro S h1 h2 h3 h
  have := h i (by have := F.lt; omega)
  unfold listOne at this
  rw [if_neg (by omega), h1] at this
  cases this
 | cons k L ih =>
  intro S hS1 hS2 hr h
  obtain ⟨h1, h2, h3, h4⟩ := h
  by_cases hk : k = i
  ·subst hk
   refine ⟨[], L, rfl, fun m hm => (nomatch hm), ?_⟩
   refine ⟨by rw [edgeA_size]; exact h1, hS1, ready_edge (ready_less h3 F.no) (fun q => by omega), by rw [edgeA_size]; exact F.lt, ?_, ?_, ?_⟩
   ·unfold listOne; rw [if_neg (by omega)]; exact hS2
   ·refine ready_edge (ready_mono hr fun j hj => ?_) (fun _ => by unfold listOne; rw [if_pos rfl])
    unfold listOne; split
    ·rfl
    ·exact hj
   ·rw [one_comm]
    refine lists_edge L _ ?_ h4
    unfold listOne; rw [if_pos rfl]
  ·by_cases hk2 : k = i + 1
   ·subst hk2
    unfold listOne at h2
    rw [if_pos rfl] at h2; cases h2
   ·have hSk : S k = false := by
     unfold listOne at h2
     rw [if_neg hk2] at h2; exact h2
    rcases F.all k h1 hk hk2 with q | q | ⟨q1, q2⟩
    ·have := ready_edgeOn hr q
     rw [hSk] at this; cases this
    ·have := ready_edgeOn h3 q
     unfold listOne at this
     rw [if_neg (by omega), hS1] at this; cases this
    ·have hr2 := ready_less h3 q2
     rw [one_comm] at h4
     obtain ⟨mid, post, e1, e2, e3⟩ := ih (listOne S k) (by unfold listOne; rw [if_neg (Ne.symm hk)]; exact hS1) (by unfold listOne; rw [if_neg (Ne.symm hk2)]; exact hS2)
      (ready_mono hr fun j hj => by unfold listOne; split; rfl; exact hj) h4
     refine ⟨k :: mid, post, by rw [e1]; rfl, fun m hm => ?_, by rw [edgeA_size]; exact h1, hSk, ready_edge hr2 (fun q => absurd q hk2), e3⟩
     rcases List.mem_cons.1 hm with e | e
     ·subst e; exact loadB_but q1
     ·exact e2 m e
theorem swap_lists (F : SwapFacts ops i d2) : ∀ (L : List Nat) (S : Nat → Bool), S i = false → S (i + 1) = false → Lists ops S L →
 Lists (edgeA ops i) S L ∨ ∃ pre mid post, L = pre ++ ((i + 1) :: (mid ++ i :: post)) ∧ (∀ m ∈ mid, loadBut ops d2 m) ∧ Lists (edgeA ops i) S (pre ++ (mid ++ i :: (i + 1) :: post)) := by
 intro L
 induction L with
 | nil =>
  intro S h1 h2 h
  have := h i (by have := F.lt; omega)
  rw [h1] at this; cases this
 | cons k L ih =>
  intro S hS1 hS2 h
  obtain ⟨h1, h2, h3, h4⟩ := h
  by_cases hk : k = i
  ·subst hk
   exact .inl ⟨by rw [edgeA_size]; exact h1, h2, ready_edge h3 (fun q => by omega), lists_edge L _ (by unfold listOne; rw [if_pos rfl]) h4⟩
  ·by_cases hk2 : k = i + 1
   ·subst hk2
    obtain ⟨mid, post, e1, e2, e3⟩ := mid_lists F L S hS1 hS2 h3 h4
    exact .inr ⟨[], mid, post, by rw [e1]; rfl, e2, e3⟩
   ·rcases ih (listOne S k) (by unfold listOne; rw [if_neg (Ne.symm hk)]; exact hS1) (by unfold listOne; rw [if_neg (Ne.symm hk2)]; exact hS2) h4 with q | ⟨pre, mid, post, e1, e2, e3⟩
    ·exact .inl ⟨by rw [edgeA_size]; exact h1, h2, ready_edge h3 (fun q => absurd q hk2), q⟩
    ·exact .inr ⟨k :: pre, mid, post, by rw [e1]; rfl, e2, by rw [edgeA_size]; exact h1, h2, ready_edge h3 (fun q => absurd q hk2), e3⟩
variable {P : Program} {G : Nat → Option (List AV)} {w0 : World} {R : Rec}
theorem swap_facts (hs : swapOk ops i = true) : ∃ o1 o2 t1 t2 d1 d2, ops[i]? = some o1 ∧ ops[i + 1]? = some o2 ∧ o1.op = .alloc t1 ∧ o2.op = .alloc t2 ∧ o1.guard = none ∧ o2.guard = none ∧ o1.dst = some d1 ∧ o2.dst = some d2 ∧ d1 ≠ d2 ∧ SwapFacts ops i d2 := by
 unfold swapOk at hs
 cases ho1 : ops[i]? with
 | none => rw [ho1] at hs; cases hs
 | some o1 =>
  cases ho2 : ops[i + 1]? with
  | none => rw [ho1, ho2] at hs; cases hs
  | some o2 =>
   rw [ho1, ho2] at hs
   simp only [Bool.and_eq_true] at hs
   obtain ⟨h1, h2, h3, h4⟩ := hs
   cases hp1 : o1.op <;> rw [hp1] at h1 <;> try (simp at h1; done)
   cases hp2 : o2.op <;> rw [hp2] at h1 <;> try (simp at h1; done)
   cases hd1 : o1.dst with
   | none => rw [hd1] at h4; cases h4
   | some d1 =>
    cases hd2 : o2.dst with
    | none => rw [hd1, hd2] at h4; cases h4
    | some d2 =>
     rw [hd1, hd2] at h4
     simp only [Bool.and_eq_true, List.all_eq_true, List.mem_range, Bool.or_eq_true, Bool.not_eq_true'] at h4
     obtain ⟨h4, h5, h6⟩ := h4
     refine ⟨o1, o2, _, _, d1, d2, rfl, rfl, hp1, hp2, by simpa using h2, by simpa using h3, hd1, hd2, ?_, (Array.getElem?_eq_some_iff.1 ho2).1, h5, fun k hk k1 k2 => ?_⟩
     ·intro q; subst q; rw [Nat.beq_refl] at h4; cases h4
     ·rcases h6 k hk with (((q | q) | q) | q) | q
      ·exact absurd (Nat.eq_of_beq_eq_true q) k1
      ·exact absurd (Nat.eq_of_beq_eq_true q) k2
      ·exact .inl q
      ·exact .inr (.inl q)
      ·exact .inr (.inr q)
theorem back_edge (h : Back (edgeA ops i)) : Back ops := by
 intro j o ho ed hed hb
 have hg : (edgeA ops i)[j]? = some (if j = i + 1 then { o with after := o.after.push { on := i, ground := .data } } else o) := by rw [edgeA_get, ho]; rfl
 refine h j _ hg ed ?_ hb
 split
 ·exact Array.mem_push.2 (.inl hed)
 ·exact hed
theorem draw_swap (hn : PlainNames P) (hR : SimRec P G w0 R) {e e' : Env} {h h' : Heap} (hs : swapOk ops i = true) (hf : drawFits P G R (edgeA ops i) e h = true) (he : opsEv P G R ops (List.range ops.size) e h = some (.normal, e', h')) (tp : Nat) :
 ∀ (K : Know) (w : World) (a : Act) (B : Frame) (k : List Item) (base cs : List Frame) (ms : List Nat), FrameOk P K e a B ms → CS K B.kind base e.pan cs → SimP P G w0 K h w → opsOk a.tmps.size ops = true →
 ∃ e2 K' w' a' cs', Same e2 e' ∧ Left P G w0 K ms B base (lone (B.atR a (.inRegion ops (Region.linearise .any ops tp) :: k)) cs w) k a.tmps.size .normal e2 h' K' w' a' cs' ms := by
 intro K w a B k base cs ms hfr hcs hsim hops
 have hE : opsEv P G R (edgeA ops i) (List.range (edgeA ops i).size) e h = some (.normal, e', h') := by rw [edgeA_size, opsEv_edge]; exact he
 have hL := linearise_lists (back_edge (fits_back hf)) tp
 obtain ⟨o1, o2, t1, t2, d1, d2, a1, a2, a3, a4, a5, a6, a7, a8, a9, F⟩ := swap_facts hs
 rcases swap_lists F _ _ rfl rfl hL with q | ⟨pre, mid, post, q1, q2, q3⟩
 ·obtain ⟨e2, hev, hsame⟩ := lists_ev hE (fits_of hf) _ _ _ _ (inv_start hE) q
  rw [opsEv_edge] at hev
  obtain ⟨K', w', a', cs', L⟩ := ops_sim hn hR _ _ _ _ _ _ hev K w a B k base cs ms hfr hcs hsim hops
  exact ⟨e2, K', w', a', cs', hsame, L⟩
 ·obtain ⟨e2, hev, hsame⟩ := lists_ev hE (fits_of hf) _ _ _ _ (inv_start hE) q3
  rw [opsEv_edge] at hev
  obtain ⟨K', w', a', cs', L⟩ := swap_sim hn hR a1 a2 a3 a4 a5 a6 a7 a8 a9 q2 hev K w a B k base cs ms hfr hcs hsim hops
  rw [q1]
  exact ⟨e2, K', w', a', cs', hsame, L⟩
theorem swapB_inv {e : Env} {h : Heap} (hb : swapB P G R ops e h = true) : ∃ i, i < ops.size ∧ swapOk ops i = true ∧ drawFits P G R (edgeA ops i) e h = true := by
 unfold swapB at hb
 simp only [List.any_eq_true, List.mem_range, Bool.and_eq_true] at hb
 exact hb
theorem swapB_of {e : Env} {h : Heap} {i : Nat} (h1 : i < ops.size) (h2 : swapOk ops i = true) (h3 : drawFits P G R (edgeA ops i) e h = true) : swapB P G R ops e h = true := by
 unfold swapB
 simp only [List.any_eq_true, List.mem_range, Bool.and_eq_true]
 exact ⟨i, h1, h2, h3⟩
end
end Go.AE
end

section
namespace Go.AE
open Go.RowKit (Below)

section
variable {P : Program} {G : Nat → Option (List AV)} {w0 : World} {R : Rec}

theorem code_sim (hn : PlainNames P) (hmix : P.follows .mixedOrders = true) (hR : SimRec P G w0 R) : SimCode P G w0 (codeEv P G R) := by
 intro c e h out e' h' he K w a B k base cs ms hf hcs hs hok
 cases c with
 | skip =>
  simp only [codeEv, Option.some.injEq, Prod.mk.injEq] at he
  obtain ⟨rfl, rfl, rfl⟩ := he
  exact ⟨K, w, a, cs, ms, .refl hf hcs hs (.one stepR_skip)⟩
 | label l =>
  simp only [codeEv, Option.some.injEq, Prod.mk.injEq] at he
  obtain ⟨rfl, rfl, rfl⟩ := he
  exact ⟨K, w, a, cs, ms, .refl hf hcs hs (.one stepR_label)⟩
 | region id ops draw =>
  simp only [codeOk] at hok
  cases draw with
  | false =>
   simp only [codeEv, Bool.false_eq_true, if_false] at he
   obtain ⟨K', w', a', cs', L⟩ := ops_sim hn hR _ _ _ _ _ _ he K w a B k base cs ms hf hcs hs hok
   exact ⟨K', w', a', cs', ms, .of_steps (.one stepR_region) L⟩
  | true =>
   simp only [codeEv, if_true] at he
   split at he
   ·rename_i hfit
    split at he
    ·rename_i e1 h1 hev
     simp only [Option.some.injEq, Prod.mk.injEq] at he
     obtain ⟨rfl, rfl, rfl⟩ := he
     have hstep := stepR_region_draw (P := P) (b := B) (a := a) (k := k) (cs := cs) (w := w) (ops := ops) (id := id)
     have hsch : Region.schedule (P.follows .mixedOrders) ops (w.tape w.drawn (.order B.fn id)) = Region.linearise .any ops (w.tape w.drawn (.order B.fn id)) := by
      simp only [Region.schedule, hmix, Bool.true_or, if_true]
     rw [hsch] at hstep
     obtain ⟨e2, hev2, hsame⟩ := draw_ev hev hfit (w.tape w.drawn (.order B.fn id))
     obtain ⟨K', w', a', cs', L⟩ := ops_sim hn hR _ _ _ _ _ _ hev2 K { w with drawn := w.drawn + 1 } a B k base cs ms hf hcs (hs.drew _) hok
     exact ⟨K', w', a', cs', ms, L.le, L.sim, L.frame.same hsame, hsame.pan ▸ L.cs, L.size, L.marks, L.arr.of_steps (.one hstep)⟩
    ·rename_i x e1 h1 hev
     split at he
     ·rename_i hck
      simp only [Bool.and_eq_true] at hck
      simp only [Option.some.injEq, Prod.mk.injEq] at he
      obtain ⟨rfl, rfl, rfl⟩ := he
      have hstep := stepR_region_draw (P := P) (b := B) (a := a) (k := k) (cs := cs) (w := w) (ops := ops) (id := id)
      have hsch : Region.schedule (P.follows .mixedOrders) ops (w.tape w.drawn (.order B.fn id)) = Region.linearise .any ops (w.tape w.drawn (.order B.fn id)) := by
       simp only [Region.schedule, hmix, Bool.true_or, if_true]
      rw [hsch] at hstep
      obtain ⟨e2, hev2, hsame⟩ := draw_panic hck.1 hck.2.1 hck.2.2 hev (w.tape w.drawn (.order B.fn id))
      obtain ⟨K', w', a', cs', L⟩ := ops_sim hn hR _ _ _ _ _ _ hev2 K { w with drawn := w.drawn + 1 } a B k base cs ms hf hcs (hs.drew _) hok
      exact ⟨K', w', a', cs', ms, L.le, L.sim, L.frame.same hsame, hsame.pan ▸ L.cs, L.size, L.marks, L.arr.of_steps (.one hstep)⟩
     ·obtain ⟨km, x, ep, hp, hm, hq, hr⟩ := midEv_inv he
      simp only [Prod.mk.injEq] at hr
      obtain ⟨rfl, rfl, rfl⟩ := hr
      have hstep := stepR_region_draw (P := P) (b := B) (a := a) (k := k) (cs := cs) (w := w) (ops := ops) (id := id)
      have hsch : Region.schedule (P.follows .mixedOrders) ops (w.tape w.drawn (.order B.fn id)) = Region.linearise .any ops (w.tape w.drawn (.order B.fn id)) := by
       simp only [Region.schedule, hmix, Bool.true_or, if_true]
      rw [hsch] at hstep
      obtain ⟨e2, hev2, hsame⟩ := draw_mid hm hq (w.tape w.drawn (.order B.fn id))
      obtain ⟨K', w', a', cs', L⟩ := ops_sim hn hR _ _ _ _ _ _ hev2 K { w with drawn := w.drawn + 1 } a B k base cs ms hf hcs (hs.drew _) hok
      exact ⟨K', w', a', cs', ms, L.le, L.sim, L.frame.near hsame, (show CS _ _ _ ep.pan _ from hsame.pan ▸ L.cs), L.size, L.marks, L.arr.of_steps (.one hstep)⟩
    ·cases he
   ·split at he
    ·rename_i hsw
     split at he
     ·rename_i e1 h1 hev
      simp only [Option.some.injEq, Prod.mk.injEq] at he
      obtain ⟨rfl, rfl, rfl⟩ := he
      have hstep := stepR_region_draw (P := P) (b := B) (a := a) (k := k) (cs := cs) (w := w) (ops := ops) (id := id)
      have hsch : Region.schedule (P.follows .mixedOrders) ops (w.tape w.drawn (.order B.fn id)) = Region.linearise .any ops (w.tape w.drawn (.order B.fn id)) := by
       simp only [Region.schedule, hmix, Bool.true_or, if_true]
      rw [hsch] at hstep
      obtain ⟨i, -, hi1, hi2⟩ := swapB_inv hsw
      obtain ⟨e2, K', w', a', cs', hsame, L⟩ := draw_swap hn hR hi1 hi2 hev (w.tape w.drawn (.order B.fn id)) K { w with drawn := w.drawn + 1 } a B k base cs ms hf hcs (hs.drew _) hok
      exact ⟨K', w', a', cs', ms, L.le, L.sim, L.frame.same hsame, hsame.pan ▸ L.cs, L.size, L.marks, L.arr.of_steps (.one hstep)⟩
     ·obtain ⟨km, x, ep, hp, hm, hq, hr⟩ := midEv_inv he
      simp only [Prod.mk.injEq] at hr
      obtain ⟨rfl, rfl, rfl⟩ := hr
      have hstep := stepR_region_draw (P := P) (b := B) (a := a) (k := k) (cs := cs) (w := w) (ops := ops) (id := id)
      have hsch : Region.schedule (P.follows .mixedOrders) ops (w.tape w.drawn (.order B.fn id)) = Region.linearise .any ops (w.tape w.drawn (.order B.fn id)) := by
       simp only [Region.schedule, hmix, Bool.true_or, if_true]
      rw [hsch] at hstep
      obtain ⟨e2, hev2, hsame⟩ := draw_mid hm hq (w.tape w.drawn (.order B.fn id))
      obtain ⟨K', w', a', cs', L⟩ := ops_sim hn hR _ _ _ _ _ _ hev2 K { w with drawn := w.drawn + 1 } a B k base cs ms hf hcs (hs.drew _) hok
      exact ⟨K', w', a', cs', ms, L.le, L.sim, L.frame.near hsame, (show CS _ _ _ ep.pan _ from hsame.pan ▸ L.cs), L.size, L.marks, L.arr.of_steps (.one hstep)⟩
    ·obtain ⟨km, x, ep, hp, hm, hq, hr⟩ := midEv_inv he
     simp only [Prod.mk.injEq] at hr
     obtain ⟨rfl, rfl, rfl⟩ := hr
     have hstep := stepR_region_draw (P := P) (b := B) (a := a) (k := k) (cs := cs) (w := w) (ops := ops) (id := id)
     have hsch : Region.schedule (P.follows .mixedOrders) ops (w.tape w.drawn (.order B.fn id)) = Region.linearise .any ops (w.tape w.drawn (.order B.fn id)) := by
      simp only [Region.schedule, hmix, Bool.true_or, if_true]
     rw [hsch] at hstep
     obtain ⟨e2, hev2, hsame⟩ := draw_mid hm hq (w.tape w.drawn (.order B.fn id))
     obtain ⟨K', w', a', cs', L⟩ := ops_sim hn hR _ _ _ _ _ _ hev2 K { w with drawn := w.drawn + 1 } a B k base cs ms hf hcs (hs.drew _) hok
     exact ⟨K', w', a', cs', ms, L.le, L.sim, L.frame.near hsame, (show CS _ _ _ ep.pan _ from hsame.pan ▸ L.cs), L.size, L.marks, L.arr.of_steps (.one hstep)⟩
 | seq x y =>
  simp only [codeOk, Bool.and_eq_true] at hok
  simp only [codeEv] at he
  cases hx : R.code x e h with
  | none => rw [hx] at he; cases he
  | some q =>
   obtain ⟨o1, e1, h1⟩ := q
   rw [hx] at he
   obtain ⟨K1, w1, a1, cs1, ms1, L1⟩ := hR.code x e h _ _ _ hx K w a B (.code y :: k) base cs ms hf hcs hs hok.1
   have start := Steps.one (stepR_seq (P := P) (b := B) (a := a) (k := k) (cs := cs) (w := w) (x := x) (y := y))
   by_cases hnorm : o1 = .normal
   ·subst hnorm
    simp only at he
    obtain ⟨K2, w2, a2, cs2, ms2, L2⟩ := hR.code y e1 h1 _ _ _ he K1 w1 a1 B k base cs1 ms1 L1.frame L1.cs L1.sim (by rw [L1.size]; exact hok.2)
    refine ⟨K2, w2, a2, cs2, ms2, L1.le.trans L2.le, L2.sim, L2.frame, L2.cs, L2.size.trans L1.size, fun r hr => ?_, (L2.arr.of_steps L1.arr).of_steps start⟩
    rcases L2.marks r hr with hq | hq
    ·exact L1.marks r hq
    ·exact .inr fun hm => hq (L1.le.md r hm)
   ·have he : some (o1, e1, h1) = some (out, e', h') := by
     cases o1 <;> first | exact absurd rfl hnorm | exact he
    simp only [Option.some.injEq, Prod.mk.injEq] at he
    obtain ⟨rfl, rfl, rfl⟩ := he
    exact ⟨K1, w1, a1, cs1, ms1, L1.le, L1.sim, L1.frame, L1.cs, L1.size, L1.marks, (L1.arr.pass rfl hnorm).of_steps start⟩
 | cond q x y =>
  simp only [codeOk, Bool.and_eq_true] at hok
  simp only [codeEv] at he
  have hv := eval_rel hf.slots q
  split at he
  ·rename_i hq
   rw [hq] at hv
   obtain ⟨K1, w1, a1, cs1, ms1, L1⟩ := hR.code x e h _ _ _ he K w a B k base cs ms hf hcs hs hok.1
   exact ⟨K1, w1, a1, cs1, ms1, L1.of_steps (.one (by
    have := stepR_cond (P := P) (b := B) (k := k) (cs := cs) (w := w) (x := x) (y := y) hv.scalar_of.1
    simpa using this))⟩
  ·rename_i hq
   rw [hq] at hv
   obtain ⟨K1, w1, a1, cs1, ms1, L1⟩ := hR.code y e h _ _ _ he K w a B k base cs ms hf hcs hs hok.2
   exact ⟨K1, w1, a1, cs1, ms1, L1.of_steps (.one (by
    have := stepR_cond (P := P) (b := B) (k := k) (cs := cs) (w := w) (x := x) (y := y) hv.scalar_of.1
    simpa using this))⟩
  ·cases he
 | block id x =>
  simp only [codeOk] at hok
  simp only [codeEv] at he
  cases hx : R.code x e h with
  | none => rw [hx] at he; cases he
  | some q =>
   obtain ⟨o1, e1, h1⟩ := q
   rw [hx] at he
   obtain ⟨K1, w1, a1, cs1, ms1, L1⟩ := hR.code x e h _ _ _ hx K w a B (.inBlock id :: k) base cs ms hf hcs hs hok
   have start := Steps.one (stepR_block (P := P) (b := B) (a := a) (k := k) (cs := cs) (w := w) (id := id) (c := x))
   have fin : ∀ {o : Xt}, Arr P K1 (lone (B.atR a (.code x :: .inBlock id :: k)) cs w) B k cs1 o a1 w1 → Left P G w0 K ms B base (lone (B.atR a (.code (.block id x) :: k)) cs w) k a.tmps.size o e1 h1 K1 w1 a1 cs1 ms1 := fun ha =>
    ⟨L1.le, L1.sim, L1.frame, L1.cs, L1.size, L1.marks, ha.of_steps start⟩
   cases o1 with
   | normal =>
    simp only [Option.some.injEq, Prod.mk.injEq] at he
    obtain ⟨rfl, rfl, rfl⟩ := he
    exact ⟨K1, w1, a1, cs1, ms1, fin (L1.arr.trans (.one stepR_inBlock))⟩
   | exit id' =>
    simp only at he
    obtain ⟨t, h2, h3⟩ := L1.arr
    split at he
    ·rename_i hid
     subst hid
     simp only [Option.some.injEq, Prod.mk.injEq] at he
     obtain ⟨rfl, rfl, rfl⟩ := he
     refine ⟨K1, w1, a1, cs1, ms1, fin (h3.trans (.one (stepR_exit (h2.trans ?_))))⟩
     simp [exitTo]
    ·rename_i hid
     simp only [Option.some.injEq, Prod.mk.injEq] at he
     obtain ⟨rfl, rfl, rfl⟩ := he
     refine ⟨K1, w1, a1, cs1, ms1, fin ⟨t, h2.trans ?_, h3⟩⟩
     simp [exitTo, Ne.symm hid]
   | ret =>
    simp only [Option.some.injEq, Prod.mk.injEq] at he
    obtain ⟨rfl, rfl, rfl⟩ := he
    obtain ⟨t, h3⟩ := L1.arr
    exact ⟨K1, w1, a1, cs1, ms1, fin ⟨t, h3⟩⟩
   | panic x =>
    simp only [Option.some.injEq, Prod.mk.injEq] at he
    obtain ⟨rfl, rfl, rfl⟩ := he
    obtain ⟨t, v, h2, h3⟩ := L1.arr
    exact ⟨K1, w1, a1, cs1, ms1, fin ⟨t, v, h2, h3⟩⟩
 | loop x =>
  have hok' : codeOk a.tmps.size x = true := by simpa only [codeOk] using hok
  simp only [codeEv] at he
  cases hx : R.code x e h with
  | none => rw [hx] at he; cases he
  | some q =>
   obtain ⟨o1, e1, h1⟩ := q
   rw [hx] at he
   obtain ⟨K1, w1, a1, cs1, ms1, L1⟩ := hR.code x e h _ _ _ hx K w a B (.inLoop x :: k) base cs ms hf hcs hs hok'
   have start := Steps.one (stepR_loop (P := P) (b := B) (a := a) (k := k) (cs := cs) (w := w) (c := x))
   by_cases hnorm : o1 = .normal
   ·subst hnorm
    simp only at he
    obtain ⟨K2, w2, a2, cs2, ms2, L2⟩ := hR.code (.loop x) e1 h1 _ _ _ he K1 w1 a1 B k base cs1 ms1 L1.frame L1.cs L1.sim (by rw [L1.size]; simpa only [codeOk] using hok')
    have harr := Arr.swap (c := .loop x) (m' := lone (B.atR a1 (.inLoop x :: k)) cs1 w1) (fun _ => by simp) (by simp) rfl stepR_loop stepR_inLoop L2.arr
    refine ⟨K2, w2, a2, cs2, ms2, L1.le.trans L2.le, L2.sim, L2.frame, L2.cs, L2.size.trans L1.size, fun r hr => ?_, (harr.of_steps L1.arr).of_steps start⟩
    rcases L2.marks r hr with hq | hq
    ·exact L1.marks r hq
    ·exact .inr fun hm => hq (L1.le.md r hm)
   ·have he : some (o1, e1, h1) = some (out, e', h') := by
     cases o1 <;> first | exact absurd rfl hnorm | exact he
    simp only [Option.some.injEq, Prod.mk.injEq] at he
    obtain ⟨rfl, rfl, rfl⟩ := he
    exact ⟨K1, w1, a1, cs1, ms1, L1.le, L1.sim, L1.frame, L1.cs, L1.size, L1.marks, (L1.arr.pass rfl hnorm).of_steps start⟩
 | exit id =>
  simp only [codeEv, Option.some.injEq, Prod.mk.injEq] at he
  obtain ⟨rfl, rfl, rfl⟩ := he
  exact ⟨K, w, a, cs, ms, .refl hf hcs hs ⟨k, rfl, .refl P _⟩⟩
 | ret =>
  simp only [codeEv, Option.some.injEq, Prod.mk.injEq] at he
  obtain ⟨rfl, rfl, rfl⟩ := he
  exact ⟨K, w, a, cs, ms, .refl hf hcs hs ⟨k, .refl P _⟩⟩
 | rangeFunc f ps assign body =>
  simp only [codeOk, Bool.and_eq_true] at hok
  obtain ⟨⟨hps, hoka⟩, hokb⟩ := hok
  have hps := mem_drop_ok hps
  simp only [codeEv] at he
  split at he
  ·rename_i g first cap hev
   have hvf := eval_rel hf.slots f
   rw [hev] at hvf
   have enter : ∃ (lg : Nat) (mark : List Deferred) (K1 : Know) (w1 : World) (ms1 : List Nat), (Instr.enterLoop B.fn a.tmps ps assign body B.roundOf).run P w = .ok (lg, mark) w1 ∧ K.Le K1 ∧
    SimP P G w0 K1 { h with loops := h.loops ++ [{ tmps := e.tmps, params := ps, assign, body, state := .ready, pending := none }] } w1 ∧ K1.γ[h.loops.length]? = some lg ∧
    FrameOk P K1 e { a with defers := mark ++ a.defers } B ms1 ∧ ∀ r ∈ ms1, r ∈ ms ∨ r ∉ K.md := by
    have hokA : ∀ c, codeOk a.tmps.size c = true → okAt P B.fn a.tmps.size c = true := fun c hc => by
     unfold okAt; rw [hc, hf.fn]; rfl
    have hround := hf.round
    cases hro : e.round with
    | none =>
     rw [hro] at hround
     simp only at hround
     have hnot : w.heap.size ∉ K.md := fun hq => absurd (lt_of_heap (hs.md _ hq).2) (Nat.lt_irrefl _)
     have s1 := hs.newMark
     have le1 := K.le_mark w.heap.size
     obtain ⟨s2, hγ⟩ := s1.newLoop (r := { tmps := e.tmps, params := ps, assign, body, state := .ready, pending := none }) (fn := B.fn) w.heap.size (hf.slots.mono le1) (hokA _ hoka) (hokA _ hokb) hps
     have le2 := (K.mark w.heap.size).le_loop (w.alloc (.deferred (some []))).heap.size
     refine ⟨_, _, _, _, w.heap.size :: ms, by rw [hround]; exact run_enterLoop_outer _ _ _ _ _, le1.trans le2, s2, ?_, ?_, ?_⟩
     ·rw [hγ, World.size_alloc]
     ·have hf2 := hf.mono (le1.trans le2)
      refine ⟨hf2.slots, ?_, ?_, hf.fn⟩
      ·refine .mark _ _ _ _ (by simp [Know.loop, Know.mark]) (fun hq => hnot (hf.defers.sub _ hq)) hf2.defers
      ·rw [hro]; exact hround
     ·intro r hr
      rcases List.mem_cons.1 hr with rfl | hr
      ·exact .inr hnot
      ·exact .inl hr
    | some l =>
     rw [hro] at hround
     obtain ⟨lg, hl, hb, hkind, hd, hm, hed⟩ := hround
     have hll : l < h.loops.length := by rw [← hs.γlen]; exact (List.getElem?_eq_some_iff.1 hl).1
     obtain ⟨k1, fn, tmps, d, k2, -⟩ := hs.loop l lg _ hl (List.getElem?_eq_getElem hll)
     obtain ⟨s2, hγ⟩ := hs.newLoop (r := { tmps := e.tmps, params := ps, assign, body, state := .ready, pending := none }) (fn := B.fn) d hf.slots (hokA _ hoka) (hokA _ hokb) hps
     have le2 := K.le_loop w.heap.size
     refine ⟨_, [], _, _, ms, ?_, le2, s2, hγ, ?_, fun r hr => .inl hr⟩
     ·rw [hb]
      unfold Instr.enterLoop
      simp only [Sem.run_bind, run_getLoop k2, run_newObj_alloc, Result.andThen, Sem.run_pure]
     ·have hf2 := hf.mono le2
      exact ⟨hf2.slots, hf2.defers, by rw [hro]; exact ⟨lg, le2.γ _ _ hl, hb, hkind, hd, hm, hed⟩, hf.fn⟩
   obtain ⟨lg, mark, K1, w1, ms1, hent, le1, s1, hγ, f1, hms1⟩ := enter
   generalize hqv : a.eval f = qv at hvf
   cases hvf with
   | func _ _ _ fs cs' g1 g2 =>
    cases hcall : R.call g (first ++ [.yield h.loops.length] ++ cap) { h with loops := h.loops ++ [{ tmps := e.tmps, params := ps, assign, body, state := .ready, pending := none }] } with
    | none => rw [hcall] at he; cases he
    | some q =>
     obtain ⟨r, h2⟩ := q
     rw [hcall] at he
     obtain ⟨⟨fnn, hfn, hbody⟩, hc⟩ := hR.call _ _ _ _ _ hcall
     have hvs : VsRel K1 (first ++ [.yield h.loops.length] ++ cap) (fs ++ #[Value.func (.yield lg) #[] #[]] ++ cs').toList := by
      simp only [Array.toList_append]
      exact ((g1.mono le1).append (.cons _ _ _ _ (.yield _ _ hγ) .nil)).append (g2.mono le1)
     obtain ⟨K2, w2, fr, le2, s2, hst, -, hl⟩ := hc K1 w1 _ hvs s1 (B.atR { a with defers := mark ++ a.defers } (.inRangeFunc lg :: k) :: cs)
     have hstart := stepR_rangeFunc (P := P) (b := B) (a := a) (k := k) (cs := cs) (w := w) (g := f) (ps := ps) (assign := assign) (body := body) (l := lg) (mark := mark) (w₁ := w1) (w₁' := w1) (w₂ := w1) (d := { target := .fn (.func g) cs', args := fs ++ #[Value.func (.yield lg) #[] #[]] }) (f := g) (args := fs ++ #[Value.func (.yield lg) #[] #[]] ++ cs') hent
      (by
       have hcst : ∀ v, a.eval (.const v) = v := fun _ => rfl
       simp [resolve, rangeCall, hqv, Deferred.ofValue, hcst]) (by simp only [invoke]; exact run_callFunc hn hfn hbody _ _)
     have start := Steps.head hstart hst
     have f2 := f1.mono le2
     have c2 : CS K2 B.kind base e.pan cs := hcs.mono (le1.trans le2)
     cases r with
     | panic x =>
      simp only [Option.some.injEq, Prod.mk.injEq] at he
      obtain ⟨rfl, rfl, rfl⟩ := he
      obtain ⟨v, hx, hl⟩ := hl
      refine ⟨K2, w2, _, cs, ms1, le1.trans le2, s2, f2, c2, rfl, hms1, .inRangeFunc lg :: k, v, hx, start.trans (.one ?_)⟩
      rw [step_leave_panicked hl, Frame.raise_atR]
     | ret x =>
      obtain ⟨v, hx, hl⟩ := hl
      have back := start.trans (.one (step_leave_returned hl))
      rw [finish_atR_inRangeFunc] at back
      simp only at he
      split at he
      ·rename_i r hr
       split at he
       ·cases he
       ·rename_i hbusy
        obtain ⟨mm, m1, m2, m3, -, -, -, -, -, -, -, s3⟩ := s2.setLoop (le2.γ _ _ hγ) hr .exhausted r.pending
        have hend := run_endLoop (P := P) m1 (by rw [m2]; exact hbusy)
        have heq : ({ mm with state := .exhausted, pending := r.pending } : Loop) = { mm with state := .exhausted } := by rw [← m3]
        rw [heq] at s3
        have hend2 : (Instr.endLoop lg).run P w2 = .ok r.pending (w2.putObj lg (.loop { mm with state := .exhausted })) := by rw [← m3]; exact hend
        have back2 := back.trans (.one (stepR_endRangeFunc hend2))
        cases hp : r.pending with
        | none =>
         rw [hp] at he back2 s3
         simp only [Option.some.injEq, Prod.mk.injEq] at he
         obtain ⟨rfl, rfl, rfl⟩ := he
         exact ⟨K2, _, _, cs, ms1, le1.trans le2, s3, f2, c2, rfl, hms1, back2⟩
        | some code =>
         rw [hp] at he back2 s3
         cases code with
         | ret =>
          simp only [Option.some.injEq, Prod.mk.injEq] at he
          obtain ⟨rfl, rfl, rfl⟩ := he
          exact ⟨K2, _, _, cs, ms1, le1.trans le2, s3, f2, c2, rfl, hms1, k, back2⟩
         | exit id =>
          simp only [Option.some.injEq, Prod.mk.injEq] at he
          obtain ⟨rfl, rfl, rfl⟩ := he
          exact ⟨K2, _, _, cs, ms1, le1.trans le2, s3, f2, c2, rfl, hms1, k, rfl, back2⟩
         | _ => cases he
      ·cases he
  ·cases he
 | _ => simp [codeEv] at he

end
end Go.AE
end

section
namespace Go.AE
open Go.RowKit (Below)

section
variable {P : Program} {G : Nat → Option (List AV)} {w0 : World} {R : Rec}

def resOf (tmps : Array Value) : ResultVar → Sem Value
 | .tmp t => pure (tmps.getD t undef)
 | .cell a t => do loadVar t (← asAddr (tmps.getD a undef))

theorem resultList_rel {K : Know} {e : Env} {h : Heap} {w : World} (s : SimP P G w0 K h w) {tmps : Array Value} (hs : SlotsRel K e.tmps tmps) : ∀ {rs : List ResultVar} {l : List AV}, resultListEv P G e h rs = some l →
 ∃ vs : List Value, VsRel K l vs ∧ (rs.mapM (resOf tmps)).run P w = .ok vs w := by
 intro rs
 induction rs with
 | nil => intro l hl; simp only [resultListEv, Option.some.injEq] at hl; subst hl; exact ⟨[], .nil, by simp⟩
 | cons r rs ih =>
  intro l hl
  cases r with
  | tmp t =>
   simp only [resultListEv, Option.map_eq_some_iff] at hl
   obtain ⟨l', hl', rfl⟩ := hl
   obtain ⟨vs, h1, h2⟩ := ih hl'
   exact ⟨_ :: vs, .cons _ _ _ _ (hs t) h1, by simp [List.mapM_cons, h2, resOf]⟩
  | cell a t =>
   simp only [resultListEv] at hl
   split at hl
   ·rename_i x l' hx hl'
    injection hl with hl; subst hl
    obtain ⟨vs, h1, h2⟩ := ih hl'
    obtain ⟨g, p, v, hp, hload, hv⟩ := load_rel s hx (hs a)
    refine ⟨v :: vs, .cons _ _ _ _ hv h1, ?_⟩
    rw [List.mapM_cons]
    simp only [resOf, hp, asAddr, Sem.run_bind, Sem.run_pure, Result.andThen_ok, hload, h2]
   ·cases hl

theorem results_rel {K : Know} {fn : Func} {e : Env} {h : Heap} {w : World} (s : SimP P G w0 K h w) {tmps : Array Value} (hs : SlotsRel K e.tmps tmps) {x : AV} (he : resultsEv P G fn e h = some x) :
 ∃ v, VRel K x v ∧ (results fn tmps).run P w = .ok v w := by
 unfold resultsEv at he
 have key : ∀ l, resultListEv P G e h fn.results.toList = some l → ∃ vs : List Value, VsRel K l vs ∧ (results fn tmps).run P w = .ok (if hh : vs.toArray.size = 1 then vs.toArray[0] else .tuple vs.toArray) w := by
  intro l hl
  obtain ⟨vs, h1, h2⟩ := resultList_rel s hs hl
  refine ⟨vs, h1, ?_⟩
  have hres : results fn tmps = (do let vs ← fn.results.mapM (resOf tmps); pure (if h : vs.size = 1 then vs[0] else .tuple vs)) := by
   unfold results
   congr 2
  rw [hres, Array.mapM_eq_mapM_toList]
  simp only [Sem.run_bind, Sem.run_map, h2, Result.andThen_ok, Sem.run_pure]
 split at he
 ·rename_i x' hl
  injection he with he; subst he
  obtain ⟨vs, h1, h2⟩ := key _ hl
  cases h1 with
  | cons _ c _ cs h3 h4 => cases h4; exact ⟨c, h3, h2⟩
 ·rename_i l hne hl
  injection he with he; subst he
  obtain ⟨vs, h1, h2⟩ := key _ hl
  refine ⟨.tuple vs.toArray, .tuple _ _ (by simpa using h1), ?_⟩
  rw [h2]
  have hlen : vs.length ≠ 1 := by
   rw [← h1.length]
   intro hq
   obtain ⟨y, rfl⟩ := List.length_eq_one_iff.1 hq
   exact hne y rfl
  simp [hlen]
 ·cases he

def ModeRel (K : Know) : Option (AV × Bool) → FrameMode → Prop
 | none, u => u = .returning
 | some (x, r), u => r = false ∧ ∃ v, VRel K x v ∧ u = .panicking [{ v, recovered := false }]

theorem ModeRel.run {K : Know} {m u} (h : ModeRel K m u) : u ≠ .run := by
 cases m with
 | none => simp only [ModeRel] at h; rw [h]; simp
 | some p => obtain ⟨x, r⟩ := p; obtain ⟨_, v, _, h⟩ := h; rw [h]; simp

theorem ModeRel.un {K : Know} {r : Nat} {m u} (h : ModeRel K m u) : ModeRel (K.un r) m u := by
 cases m with
 | none => exact h
 | some p => obtain ⟨x, r⟩ := p; obtain ⟨h1, v, h2, h⟩ := h; exact ⟨h1, v, VRel.un h2, h⟩

theorem ModeRel.mono {K K' : Know} (le : K.Le K') {m u} (h : ModeRel K m u) : ModeRel K' m u := by
 cases m with
 | none => exact h
 | some p => obtain ⟨x, r⟩ := p; obtain ⟨h1, v, h2, h⟩ := h; exact ⟨h1, v, h2.mono le, h⟩

theorem SlotsRel.un {K : Know} {r : Nat} {s tmps} (h : SlotsRel K s tmps) : SlotsRel (K.un r) s tmps := fun t => VRel.un (h t)

theorem step_mark {fr : Frame} {cs : List Frame} {w : World} {r : Nat} {args : Array Value} {ds : List Deferred} (hm : fr.mode ≠ .run) (hd : fr.defers = { target := .collected r, args } :: ds) (hr : w.heap[r]? = some (.deferred (some []))) :
 step P (lone fr cs w) = .next (lone { fr with defers := ds } cs (w.putObj r (.deferred none))) := by
 refine step_lone_go ?_
 have ht := run_takeDeferred (P := P) hr
 cases hmode : fr.mode with
 | run => exact absurd hmode hm
 | returning => simp [stepG, unwind, hmode, hd, Sem.runT_eq, ht]
 | panicking chain => simp [stepG, unwind, hmode, hd, Sem.runT_eq, ht]

def settled : Option (AV × Bool) → Option (AV × Bool)
 | some (_, true) => none
 | q => q

def Gone (P : Program) (K : Know) (fn : Func) (fr : Frame) (w : World) : Res → Prop
 | .ret x => fr.mode = .returning ∧ ∃ v, VRel K x v ∧ (results fn fr.tmps).run P w = .ok v w
 | .panic x => ∃ v, VRel K x v ∧ fr.mode = .panicking [{ v, recovered := false }]

theorem unwind_sim (hR : SimRec P G w0 R) (hn : PlainNames P) {g : FuncId} {fn : Func} (hfn : P.funcs[g]? = some fn) {K0 : Know} {e : Env} : ∀ (cds : List Deferred) (ds : List (FuncId × List AV)) (ms : List Nat) (m : Option (AV × Bool)) (h : Heap) (res : Res) (h' : Heap),
 unwindEv P G R fn e ds m h = some (res, h') → ∀ (K : Know) (w : World) (fr : Frame) (cs : List Frame), fr.fn = g → fr.defers = cds → DefRel K ds cds ms → SlotsRel K e.tmps fr.tmps → ModeRel K m fr.mode → SimP P G w0 K h w → K0.Le K →
 (∀ r ∈ ms, r ∉ K0.md) →
 ∃ K' w' fr', K0.Le K' ∧ SimP P G w0 K' h' w' ∧ Steps P (lone fr cs w) (lone fr' cs w') ∧ fr'.kind = fr.kind ∧ fr'.defers = [] ∧ fr'.fn = g ∧ Gone P K' fn fr' w' res ∧ (∀ kind base p cs, CS K kind base p cs → CS K' kind base p cs) := by
 intro cds
 induction cds with
 | nil =>
  intro ds ms m h res h' he K w fr cs hg hd hdr hsl hmode hs hle hms
  generalize hq : ([] : List Deferred) = q at hdr
  cases hdr with
  | call => cases hq
  | mark => cases hq
  | nil =>
   cases m with
   | none =>
    simp only [unwindEv, Option.map_eq_some_iff, Prod.mk.injEq] at he
    obtain ⟨x, hx, rfl, rfl⟩ := he
    obtain ⟨v, h1, h2⟩ := results_rel hs hsl hx
    exact ⟨K, w, fr, hle, hs, .refl P _, rfl, hd, hg, ⟨hmode, v, h1, h2⟩, fun _ _ _ _ h => h⟩
   | some p =>
    obtain ⟨x, r⟩ := p
    simp only [unwindEv, Option.some.injEq, Prod.mk.injEq] at he
    obtain ⟨rfl, rfl⟩ := he
    obtain ⟨-, v, h1, h2⟩ := hmode
    exact ⟨K, w, fr, hle, hs, .refl P _, rfl, hd, hg, ⟨v, h1, h2⟩, fun _ _ _ _ h => h⟩
 | cons d cds ih =>
  intro ds ms m h res h' he K w fr cs hg hd hdr hsl hmode hs hle hms
  generalize hq : d :: cds = q at hdr
  cases hdr with
  | nil => cases hq
  | mark r ds' cds' ms' hr hnr hrest =>
   injection hq with hq1 hq2
   subst hq1; subst hq2
   have hmd := hs.md r hr
   have hstep := step_mark (P := P) (cs := cs) hmode.run hd hmd.2
   have hr0 : r ∉ K0.md := hms r List.mem_cons_self
   obtain ⟨K', w', fr', g1, g2, g3, g4, g5, g6, g7, g8⟩ := ih _ ms' m h res h' he (K.un r) _ { fr with defers := cds } cs hg rfl (hrest.un hnr) hsl.un hmode.un (hs.drop hr (.deferred none) (by intro _ _ _ hq; cases hq)) (le_un hle hr0) (fun r' hr' => hms r' (List.mem_cons_of_mem _ hr'))
   exact ⟨K', w', fr', g1, g2, .head hstep g3, g4, g5, g6, g7, fun _ _ _ _ hc => g8 _ _ _ _ hc.un⟩
  | call f args vs cap ds' cds' _ hv hrest =>
   injection hq with hq1 hq2
   subst hq1; subst hq2
   simp only [unwindEv] at he
   cases hcall : R.dcall f args m h with
   | none => rw [hcall] at he; cases he
   | some q =>
    obtain ⟨rr, m1, h1⟩ := q
    rw [hcall] at he
    cases rr with
    | panic x => simp at he
    | ret x =>
     obtain ⟨⟨fnn, hfnn, hbody⟩, hc⟩ := hR.dcall _ _ _ _ _ _ _ hcall
     have hinv : (invoke (.fn (.func f) cap) vs).run P w = .ok (.enter f (vs ++ cap)) w := by
      simp only [invoke]; exact run_callFunc hn hfnn hbody _ _
     have hstep := step_defer (P := P) (cs := cs) (d := { target := .fn (.func f) cap, args := vs }) hmode.run hd rfl hinv
     have hcs : CS K .deferred ({ fr with defers := cds, mode := .returning } :: cs) m ({ fr with defers := cds } :: cs) := by
      cases m with
      | none =>
       have : ({ fr with defers := cds } : Frame) = { fr with defers := cds, mode := .returning } := by rw [← show fr.mode = .returning from hmode]
       rw [this]
       exact .ret _ _ rfl rfl rfl
      | some p =>
       obtain ⟨y, r⟩ := p
       obtain ⟨rfl, v, hv1, hv2⟩ := hmode
       have : ({ fr with defers := cds } : Frame) = { ({ fr with defers := cds, mode := .returning } : Frame) with mode := .panicking [{ v, recovered := false }] } := by rw [← hv2]
       rw [this]
       exact .pan _ _ y v false rfl rfl hv1
     obtain ⟨K1, w1, fr1, cs1, v1, le1, s1, c1, hst, hk1, hgo⟩ := hc K w (vs ++ cap) _ _ hv hcs hs
     have hm1 : ∃ u, cs1 = { fr with defers := cds, mode := u } :: cs ∧ ModeRel K1 (settled m1) (settle u) := by
      generalize hbase : ({ fr with defers := cds, mode := .returning } : Frame) :: cs = base at c1
      cases c1 with
      | normal hh => cases hh
      | ret c0 rest _ hb hm =>
       refine ⟨.returning, hbase.symm, ?_⟩
       simp [ModeRel, settle, settled]
      | pan c0 rest y v r _ hb hx =>
       rw [hb] at hbase
       injection hbase with hb1 hb2
       subst hb1; subst hb2
       refine ⟨.panicking [{ v, recovered := r }], rfl, ?_⟩
       cases r with
       | true => simp [ModeRel, settle, settled]
       | false => exact ⟨rfl, v, hx, rfl⟩
     obtain ⟨u, rfl, hm1⟩ := hm1
     have hback := step_going_returned (c := { fr with defers := cds, mode := u }) (cs := cs) hk1 hgo
     have he' : unwindEv P G R fn e ds' (settled m1) h1 = some (res, h') := by
      rcases m1 with _ | ⟨y, r⟩
      ·exact he
      ·cases r <;> exact he
     obtain ⟨K', w', fr', g1, g2, g3, g4, g5, g6, g7, g8⟩ := ih _ ms _ h1 res h' he' K1 w1 { fr with defers := cds, mode := settle u } cs hg rfl (hrest.mono le1) (hsl.mono le1) hm1 s1 (hle.trans le1) hms
     exact ⟨K', w', fr', g1, g2, .head hstep (hst.trans (.head hback g3)), g4, g5, g6, g7, fun _ _ _ _ hq => g8 _ _ _ _ (hq.mono le1)⟩

theorem codeOk_mono {n n' : Nat} (h : n ≤ n') : ∀ {c : Code}, codeOk n c = true → codeOk n' c = true := by
 intro c
 induction c with
 | region id ops draw =>
  simp only [codeOk, opsOk, Array.all_eq_true]
  intro hq i hi
  have := hq i hi
  revert this
  cases ops[i].dst with
  | none => intro _; rfl
  | some d => simp only [decide_eq_true_eq]; intro hd; exact Nat.lt_of_lt_of_le hd h
 | seq a b iha ihb => simp only [codeOk, Bool.and_eq_true]; exact fun hq => ⟨iha hq.1, ihb hq.2⟩
 | cond q a b iha ihb => simp only [codeOk, Bool.and_eq_true]; exact fun hq => ⟨iha hq.1, ihb hq.2⟩
 | block id c ih => simp only [codeOk]; exact ih
 | loop c ih => simp only [codeOk]; exact ih
 | rangeFunc f ps a b iha ihb =>
  simp only [codeOk, Bool.and_eq_true, Array.all_eq_true, decide_eq_true_eq]
  exact fun hq => ⟨⟨fun i hi => Nat.lt_of_lt_of_le (hq.1.1 i hi) h, iha hq.1.2⟩, ihb hq.2⟩
 | _ => intro hq; exact hq

structure Prog (P : Program) : Prop where
 names : PlainNames P
 mixed : P.follows .mixedOrders = true
 code : ∀ (g : FuncId) (fn : Func) (c : Code), P.funcs[g]? = some fn → fn.body = some c → codeOk fn.ntmps c = true

theorem slots_start {K : Know} {args : List AV} {vargs : Array Value} (hv : VsRel K args vargs.toList) (n : Nat) : SlotsRel K { ch := [], base := args } (vargs ++ Array.replicate n undef) := by
 intro t
 simp only [Slots.get, look]
 have hlen := hv.length
 rcases Nat.lt_or_ge t args.length with hlt | hge
 ·obtain ⟨c, h1, h2⟩ := hv.get (List.getElem?_eq_getElem hlt)
  have hb : args.getD t (.tuple []) = args[t] := by simp [hlt]
  rw [hb]
  have hc : (vargs ++ Array.replicate n undef).getD t undef = c := by
   have hlt' : t < vargs.size := by simpa [hlen] using hlt
   rw [Array.getD_eq_getD_getElem?, Array.getElem?_append_left hlt', ← Array.getElem?_toList, h1]; rfl
  rw [hc]; exact h2
 ·have hb : args.getD t (.tuple []) = .tuple [] := by simp [List.getElem?_eq_none hge]
  rw [hb]
  have hc : (vargs ++ Array.replicate n undef).getD t undef = undef := by
   have hge' : vargs.size ≤ t := by simpa [hlen] using hge
   rw [Array.getD_eq_getD_getElem?, Array.getElem?_append_right hge', Array.getElem?_replicate]
   split <;> rfl
  rw [hc]
  exact .tuple [] #[] .nil

theorem body_sim (hp : Prog P) (hR : SimRec P G w0 R) {g : FuncId} {args : List AV} {m m' : Option (AV × Bool)} {h h' : Heap} {res : Res} (he : bodyEv P G R g args m h = some (res, m', h')) :
 (∃ fn, P.funcs[g]? = some fn ∧ fn.body.isSome = true) ∧ ∀ (K : Know) (w : World) (vargs : Array Value) (kind : CallKind) (base cs : List Frame), VsRel K args vargs.toList → CS K kind base m cs → SimP P G w0 K h w →
 ∃ K' w' fr cs' fn, P.funcs[g]? = some fn ∧ K.Le K' ∧ SimP P G w0 K' h' w' ∧ CS K' kind base m' cs' ∧ Steps P (lone (Frame.enter P g vargs kind) cs w) (lone fr cs' w') ∧ fr.kind = kind ∧ fr.defers = [] ∧ fr.fn = g ∧ Gone P K' fn fr w' res := by
 unfold bodyEv at he
 split at he
 ·cases he
 ·rename_i fn hfn
  split at he
  ·cases he
  ·rename_i body hbody
   refine ⟨⟨fn, hfn, by rw [hbody]; rfl⟩, fun K w vargs kind base cs hv hcs hs => ?_⟩
   let b : Frame := { (default : Frame) with fn := g, kind := kind }
   let a : Act := { tmps := vargs ++ Array.replicate (fn.ntmps - vargs.size) undef, defers := [] }
   have hb : b.roundOf = none := rfl
   have henter : Frame.enter P g vargs kind = b.atR a [.code body] := by
    unfold Frame.enter Frame.atR
    simp only [hfn, hbody, b, a, Option.map_some, Option.getD_some, Option.bind_some]
    rfl
   have hf0 : FrameOk P K { tmps := { ch := [], base := args }, defers := [], pan := m, round := none } a b [] :=
    ⟨slots_start hv _, .nil, rfl, by show (P.funcs[g]?).isSome = true; rw [hfn]; rfl⟩
   have hok : codeOk a.tmps.size body = true := codeOk_mono (by simp [a]; omega) (hp.code g fn body hfn hbody)
   have finish : ∀ (out : Xt) (e : Env) (h1 : Heap) (m0 : Option (AV × Bool)), R.code body { tmps := { ch := [], base := args }, defers := [], pan := m, round := none } h = some (out, e, h1) →
    (out = .normal ∧ m0 = none ∨ out = .ret ∧ m0 = none ∨ ∃ x, out = .panic x ∧ m0 = some (x, false)) → (unwindEv P G R fn e e.defers m0 h1).map (fun (r, h) => (r, e.pan, h)) = some (res, m', h') →
    ∃ K' w' fr cs' fn, P.funcs[g]? = some fn ∧ K.Le K' ∧ SimP P G w0 K' h' w' ∧ CS K' kind base m' cs' ∧ Steps P (lone (Frame.enter P g vargs kind) cs w) (lone fr cs' w') ∧ fr.kind = kind ∧ fr.defers = [] ∧ fr.fn = g ∧ Gone P K' fn fr w' res := by
    intro out e h1 m0 hcode hout hun
    obtain ⟨K1, w1, a1, cs1, ms1, L⟩ := hR.code _ _ _ _ _ _ hcode K w a b [] base cs [] hf0 hcs hs hok
    simp only [Option.map_eq_some_iff, Prod.mk.injEq] at hun
    obtain ⟨⟨r, hh⟩, hun, rfl, rfl, rfl⟩ := hun
    have harr : ∃ (todo : List Item) (u : FrameMode), ModeRel K1 m0 u ∧ Steps P (lone (Frame.enter P g vargs kind) cs w) (lone { b.atR a1 todo with mode := u } cs1 w1) := by
     rw [henter]
     rcases hout with ⟨rfl, rfl⟩ | ⟨rfl, rfl⟩ | ⟨x, rfl, rfl⟩
     ·exact ⟨[], .returning, rfl, Steps.trans L.arr (.one (stepR_end hb))⟩
     ·obtain ⟨todo, hst⟩ := L.arr
      exact ⟨_, .returning, rfl, Steps.trans hst (.one (stepR_ret hb))⟩
     ·obtain ⟨todo, v, hx, hst⟩ := L.arr
      exact ⟨todo, _, ⟨rfl, v, hx, rfl⟩, hst⟩
    obtain ⟨todo, u, hmode, hst⟩ := harr
    obtain ⟨K2, w2, fr, g1, g2, g3, g4, g5, g6, g7, g8⟩ := unwind_sim hR hp.names hfn a1.defers e.defers ms1 m0 h1 r hh hun K1 w1 { b.atR a1 todo with mode := u } cs1 rfl rfl L.frame.defers L.frame.slots hmode L.sim L.le
     (fun r hr => (L.marks r hr).resolve_left (by simp))
    exact ⟨K2, w2, fr, cs1, fn, hfn, g1, g2, g8 _ _ _ _ L.cs, hst.trans g3, g4, g5, g6, g7⟩
   split at he
   ·rename_i e1 h1 hc; exact finish _ _ _ _ hc (.inl ⟨rfl, rfl⟩) he
   ·rename_i e1 h1 hc; exact finish _ _ _ _ hc (.inr (.inl ⟨rfl, rfl⟩)) he
   ·rename_i x e1 h1 hc; exact finish _ _ _ _ hc (.inr (.inr ⟨x, rfl, rfl⟩)) he
   ·cases he

theorem Gone.rleft {K : Know} {fn : Func} {fr : Frame} {w : World} {res : Res} (hg : Gone P K fn fr w res) (hf : P.funcs[fr.fn]? = some fn) (hk : fr.kind = .normal) (hd : fr.defers = []) : RLeft P K fr w res := by
 cases res with
 | ret x => obtain ⟨h1, v, h2, h3⟩ := hg; exact ⟨v, h2, h1, hd, hk, fn, hf, h3⟩
 | panic x => obtain ⟨v, h2, h3⟩ := hg; exact ⟨v, h2, h3, hd, fn, hf⟩

def PrimOk (P : Program) (G : Nat → Option (List AV)) (w0 : World) (g : FuncId) (p : List AV → Heap → Option (AV × Heap)) : Prop :=
 (∃ fn, P.funcs[g]? = some fn ∧ fn.body.isSome = true) ∧
 ∀ args h x h', p args h = some (x, h') → ∀ (K : Know) (w : World) (vargs : Array Value), VsRel K args vargs.toList → SimP P G w0 K h w →
  Calls P g vargs w fun e w' => ∃ v K', e = .returned v ∧ K.Le K' ∧ VRel K' x v ∧ SimP P G w0 K' h' w'

theorem func_sim (hp : Prog P) {prims : FuncId → Option (List AV → Heap → Option (AV × Heap))} (hprim : ∀ g p, prims g = some p → PrimOk P G w0 g p) (hR : SimRec P G w0 R) : SimCall P G w0 (funcEv P G R prims) := by
 intro g args h r h' he
 unfold funcEv at he
 split at he
 ·rename_i p hpp
  simp only [Option.map_eq_some_iff, Prod.mk.injEq] at he
  obtain ⟨⟨x, hh⟩, hx, rfl, rfl⟩ := he
  obtain ⟨hfn, hcalls⟩ := hprim g p hpp
  refine ⟨hfn, fun K w vargs hv hs cs => ?_⟩
  obtain ⟨e, w', fr, ⟨v, K', rfl, le, hx', s'⟩, hc, hfr, hl⟩ := hcalls args h x hh hx K w vargs hv hs cs
  exact ⟨K', w', fr, le, s', hc, hfr, v, hx', hl⟩
 ·simp only [Option.map_eq_some_iff, Prod.mk.injEq] at he
  obtain ⟨⟨r', m', hh⟩, hx, rfl, rfl⟩ := he
  obtain ⟨hfn, hb⟩ := body_sim hp hR hx
  refine ⟨hfn, fun K w vargs hv hs cs => ?_⟩
  obtain ⟨K', w', fr, cs', fn, hf, le, s', c', hst, hk, hd, hg, hgone⟩ := hb K w vargs .normal cs cs hv (.normal rfl) hs
  have : cs' = cs := by
   generalize hq : CallKind.normal = q at c'
   cases c' with
   | normal => rfl
   | ret c0 rest h1 => exact absurd (hq.trans h1) (by simp)
   | pan c0 rest x v r h1 => exact absurd (hq.trans h1) (by simp)
  subst this
  exact ⟨K', w', fr, le, s', hst, hg, hgone.rleft (by rw [hg]; exact hf) hk hd⟩

theorem dcall_sim (hp : Prog P) (hR : SimRec P G w0 R) : SimDCall P G w0 (bodyEv P G R) := by
 intro g args m h x m' h' he
 obtain ⟨hfn, hb⟩ := body_sim hp hR he
 refine ⟨hfn, fun K w vargs base cs hv hcs hs => ?_⟩
 obtain ⟨K', w', fr, cs', fn, hf, le, s', c', hst, hk, hd, hg, hgone⟩ := hb K w vargs .deferred base cs hv hcs hs
 obtain ⟨h1, v, h2, h3⟩ := hgone
 exact ⟨K', w', fr, cs', v, le, s', c', hst, hk, h1, hd, fn, by rw [hg]; exact hf, h3⟩

theorem setParams_rel {K : Know} : ∀ {ps : List Tmp} {args : List AV} {vargs : List Value} {s : Slots} {tmps : Array Value}, VsRel K args vargs → SlotsRel K s tmps → (∀ p ∈ ps, p < tmps.size) →
 SlotsRel K (setParams ps args s) ((ps.zip vargs).foldl (fun ts p => ts.setIfInBounds p.1 p.2) tmps) ∧ ((ps.zip vargs).foldl (fun ts p => ts.setIfInBounds p.1 p.2) tmps).size = tmps.size := by
 intro ps
 induction ps with
 | nil => intro args vargs s tmps hv hs hp; exact ⟨hs, rfl⟩
 | cons p ps ih =>
  intro args vargs s tmps hv hs hp
  cases hv with
  | nil => exact ⟨hs, rfl⟩
  | cons x c xs cs hx hxs =>
   have h1 := SlotsRel.set hs (hp p List.mem_cons_self) hx
   obtain ⟨i1, i2⟩ := ih (s := s.set p x) (tmps := tmps.setIfInBounds p c) hxs h1 (fun q hq => by simpa using hp q (List.mem_cons_of_mem _ hq))
   refine ⟨?_, ?_⟩
   ·simpa [setParams] using i1
   ·simpa using i2

theorem round_sim (hR : SimRec P G w0 R) : SimRound P G w0 (roundEv R) := by
 intro l args h r h' he K w vargs lg hγ hv hs caller cs
 unfold roundEv at he
 split at he
 ·cases he
 ·rename_i rec hrec
  split at he
  ·rename_i hsize
   obtain ⟨mm, m1, m2, m3, m4, m5, m6, m7, m8, m9, m10, -⟩ := hs.setLoop hγ hrec rec.state rec.pending
   have hargs : vargs.size = mm.params.size := by
    rw [m4, hsize, hv.length]; simp
   have hy := run_yield (P := P) m1 hargs
   split at he
   ·rename_i e1 h1 hassign
    split at he
    ·rename_i r1 hr1
     split at he
     ·rename_i hready
      obtain ⟨sp1, sp2⟩ := setParams_rel (ps := rec.params.toList) hv m7 m10
      have hfold : (mm.params.zip vargs).foldl (fun tmps (x : Tmp × Value) => tmps.setIfInBounds x.1 x.2) mm.tmps = (rec.params.toList.zip vargs.toList).foldl (fun ts p => ts.setIfInBounds p.1 p.2) mm.tmps := by
       rw [← Array.foldl_toList, Array.toList_zip, m4]
      let b : Frame := { (default : Frame) with fn := mm.fn, kind := .normal, roundOf := some lg }
      let a : Act := { tmps := (rec.params.toList.zip vargs.toList).foldl (fun ts p => ts.setIfInBounds p.1 p.2) mm.tmps, defers := [] }
      have hfnok : (P.funcs[mm.fn]?).isSome = true := by
       have := m8
       unfold okAt at this
       rw [Bool.and_eq_true] at this
       exact this.2
      have hf0 : FrameOk P K { tmps := setParams rec.params.toList args rec.tmps, defers := [], pan := none, round := some l } a b [] :=
       ⟨sp1, .nil, ⟨lg, hγ, rfl, rfl, rfl, rfl, rfl⟩, hfnok⟩
      have hok1 : codeOk a.tmps.size rec.assign = true := by
       have := m8; unfold okAt at this; rw [Bool.and_eq_true] at this
       show codeOk (Array.size _) _ = true
       rw [sp2]; exact this.1
      have hok2 : codeOk a.tmps.size rec.body = true := by
       have := m9; unfold okAt at this; rw [Bool.and_eq_true] at this
       show codeOk (Array.size _) _ = true
       rw [sp2]; exact this.1
      have hstart : Frame.round lg mm.fn ((mm.params.zip vargs).foldl (fun tmps (x : Tmp × Value) => tmps.setIfInBounds x.1 x.2) mm.tmps) mm.assign mm.body .normal = b.atR a [.code rec.assign, .beginRound, .code rec.body] := by
       simp only [Frame.round, Frame.atR, b, a, hfold, m5, m6]
      have nocs : ∀ {K : Know} {p : Option (AV × Bool)} {base cs' : List Frame}, CS K .normal base p cs' → cs' = base := by
       intro K p base cs' c
       generalize hq : CallKind.normal = q at c
       cases c with
       | normal => rfl
       | ret c0 rest h1 => exact absurd (hq.trans h1) (by simp)
       | pan c0 rest x v r h1 => exact absurd (hq.trans h1) (by simp)
      obtain ⟨K1, w1, a1, cs1, ms1, L1⟩ := hR.code _ _ _ _ _ _ hassign K w a b [.beginRound, .code rec.body] (caller :: cs) (caller :: cs) [] hf0 (.normal rfl) hs hok1
      have hcs1 := nocs L1.cs
      subst hcs1
      obtain ⟨nn, n1, n2, n3, n4, n5, n6, n7, n8, n9, n10, sbusy⟩ := L1.sim.setLoop (L1.le.γ _ _ hγ) hr1 .busy r1.pending
      have hbegin := run_beginRound (P := P) n1 (n2.trans hready)
      have heqb : ({ nn with state := .busy, pending := r1.pending } : Loop) = { nn with state := .busy } := by rw [← n3]
      rw [heqb] at sbusy
      have hmid : Steps P (lone (Frame.round lg mm.fn ((mm.params.zip vargs).foldl (fun tmps (x : Tmp × Value) => tmps.setIfInBounds x.1 x.2) mm.tmps) mm.assign mm.body .normal) (caller :: cs) w)
       (lone (b.atR a1 [.code rec.body]) (caller :: cs) (w1.putObj lg (.loop { nn with state := .busy }))) := by
       rw [hstart]
       exact Steps.trans L1.arr (.one (stepR_beginRound rfl hbegin))
      have hmdd : ∀ r ∈ ms1, r ∉ K.md := fun r hr => (L1.marks r hr).resolve_left (by simp)
      have body : ∀ (out : Xt) (e2 : Env) (h2 : Heap), R.code rec.body e1 { h1 with loops := h1.loops.set l { r1 with state := .busy } } = some (out, e2, h2) →
       ∃ K2 w2 a2 ms2, K.Le K2 ∧ SimP P G w0 K2 h2 w2 ∧ FrameOk P K2 e2 a2 b ms2 ∧ Arr P K2 (lone (b.atR a1 [.code rec.body]) (caller :: cs) (w1.putObj lg (.loop { nn with state := .busy }))) b [] (caller :: cs) out a2 w2 := by
       intro out e2 h2 hcode
       obtain ⟨K2, w2, a2, cs2, ms2, L2⟩ := hR.code _ _ _ _ _ _ hcode K1 _ a1 b [] (caller :: cs) (caller :: cs) ms1 L1.frame L1.cs sbusy (by rw [L1.size]; exact hok2)
       have hcs2 := nocs L2.cs
       subst hcs2
       exact ⟨K2, w2, a2, ms2, L1.le.trans L2.le, L2.sim, L2.frame, L2.arr⟩
      have ending : ∀ (h2 : Heap) (out : Res) (hh : Heap) (st : LoopState) (pe : Option Code) (bb : Bool) (K2 : Know) (w2 : World), K.Le K2 → SimP P G w0 K2 h2 w2 → pe.isNone = bb → (if pe.isNone then LoopState.ready else .done) = st →
       ((h2.loops[l]?).map fun r => (Res.ret (.v (.bool bb)), { h2 with loops := h2.loops.set l { r with state := st, pending := pe } })) = some (out, hh) →
       ∃ v w3, (Instr.endRound lg pe).run P w2 = .ok (.bool bb) w3 ∧ SimP P G w0 K2 hh w3 ∧ out = .ret (.v (.bool bb)) ∧ VRel K2 (.v (.bool bb)) v ∧ v = .bool bb := by
       intro h2 out hh st pe bb K2 w2 le2 s2 hbb hst hmap
       simp only [Option.map_eq_some_iff, Prod.mk.injEq] at hmap
       obtain ⟨r2, hr2, rfl, rfl⟩ := hmap
       obtain ⟨qq, q1, q2, q3, -, -, -, -, -, -, -, send⟩ := s2.setLoop (le2.γ _ _ hγ) hr2 st pe
       have hend := run_endRound (P := P) pe q1
       rw [hst, hbb] at hend
       exact ⟨_, _, hend, send, rfl, .v _ rfl, rfl⟩
      have hnil : ∀ {K2 : Know} {e2 : Env} {a2 : Act} {ms2 : List Nat}, FrameOk P K2 e2 a2 b ms2 → e2.round = some l → a2.defers = [] := by
       intro K2 e2 a2 ms2 hf hr
       have := hf.round
       rw [hr] at this
       obtain ⟨_, _, _, _, h1, _⟩ := this
       exact h1
      refine ⟨mm.fn, (mm.params.zip vargs).foldl (fun tmps (x : Tmp × Value) => tmps.setIfInBounds x.1 x.2) mm.tmps, mm.assign, mm.body, ?_⟩
      split at he
      ·rename_i e2 h2 hbody
       obtain ⟨K2, w2, a2, ms2, le2, s2, f2, harr⟩ := body _ _ _ hbody
       obtain ⟨v, w3, hend, s3, rfl, hvr, rfl⟩ := ending h2 r h' .ready none true K2 w2 le2 s2 rfl rfl he
       exact ⟨K2, w3, hy, le2, s3, _, hvr, hmid.trans (Steps.trans harr (.one (stepR_round_end rfl rfl hend)))⟩
      ·rename_i e2 h2 hbody
       obtain ⟨K2, w2, a2, ms2, le2, s2, f2, todo, harr⟩ := body _ _ _ hbody
       obtain ⟨v, w3, hend, s3, rfl, hvr, rfl⟩ := ending h2 r h' .done (some .ret) false K2 w2 le2 s2 rfl rfl he
       exact ⟨K2, w3, hy, le2, s3, _, hvr, hmid.trans (harr.trans (.one (stepR_round_ret rfl rfl hend)))⟩
      ·rename_i id e2 h2 hbody
       obtain ⟨K2, w2, a2, ms2, le2, s2, f2, todo, hex, harr⟩ := body _ _ _ hbody
       obtain ⟨v, w3, hend, s3, rfl, hvr, rfl⟩ := ending h2 r h' .done (some (.exit id)) false K2 w2 le2 s2 rfl rfl he
       exact ⟨K2, w3, hy, le2, s3, _, hvr, hmid.trans (harr.trans (.one (stepR_round_exit rfl rfl (hex.trans rfl) hend)))⟩
      ·rename_i x e2 h2 hbody
       simp only [Option.some.injEq, Prod.mk.injEq] at he
       obtain ⟨rfl, rfl⟩ := he
       obtain ⟨K2, w2, a2, ms2, le2, s2, f2, todo, v, hx, harr⟩ := body _ _ _ hbody
       have hd : a2.defers = [] := by
        have := f2.round
        cases hq : e2.round with
        | none => rw [hq] at this; cases this
        | some l' => rw [hq] at this; obtain ⟨_, _, _, _, h1, _⟩ := this; exact h1
       obtain ⟨fnn, hfnn⟩ := Option.isSome_iff_exists.1 hfnok
       exact ⟨K2, w2, hy, le2, s2, v, _, hx, hmid.trans harr, rfl, hd, fnn, hfnn⟩
      ·cases he
     ·cases he
    ·cases he
   ·cases he
  ·cases he

theorem recs_sim (hp : Prog P) {prims : FuncId → Option (List AV → Heap → Option (AV × Heap))} (hprim : ∀ g p, prims g = some p → PrimOk P G w0 g p) : ∀ n, SimRec P G w0 (recs P G prims n) := by
 intro n
 induction n with
 | zero =>
  refine ⟨?_, ?_, ?_, ?_⟩
  ·intro c e h out e' h' he; cases he
  ·intro g args h r h' he; cases he
  ·intro g args m h x m' h' he; cases he
  ·intro l args h r h' he; cases he
 | succ n ih => exact ⟨code_sim hp.names hp.mixed ih, func_sim hp hprim ih, dcall_sim hp ih, round_sim ih⟩

end
end Go.AE
end

section
namespace Go.AE

structure RecLe (R R' : Rec) : Prop where
 code : ∀ c e h r, R.code c e h = some r → R'.code c e h = some r
 call : ∀ g a h r, R.call g a h = some r → R'.call g a h = some r
 dcall : ∀ g a m h r, R.dcall g a m h = some r → R'.dcall g a m h = some r
 round : ∀ l a h r, R.round l a h = some r → R'.round l a h = some r

section
variable {P : Program} {G : Nat → Option (List AV)} {R R' : Rec}

theorem call_le (le : RecLe R R') {e : Env} {h : Heap} {c : Call} {r : Res × Heap} (hc : callEv P R e h c = some r) : callEv P R' e h c = some r := by
 unfold callEv at hc ⊢
 cases hcc : c.callee with
 | builtin b => rw [hcc] at hc; cases hc
 | value f =>
  simp only [hcc] at hc ⊢
  split at hc
  ·rename_i h1; (try simp only [h1]); exact le.call _ _ _ _ hc
  ·rename_i h1; (try simp only [h1]); exact le.round _ _ _ _ hc
  ·cases hc
 | invoke v m =>
  simp only [hcc] at hc ⊢
  split at hc
  ·rename_i h1
   (try simp only [h1])
   split at hc
   ·rename_i h2; (try simp only [h2]); exact le.call _ _ _ _ hc
   ·cases hc
  ·cases hc

theorem op_le (le : RecLe R R') {e : Env} {h : Heap} {o : Oper} {r : Res × Env × Heap} (ho : opEv P G R e h o = some r) : opEv P G R' e h o = some r := by
 unfold opEv at ho ⊢
 split at ho
 ·exact ho
 ·exact ho
 ·exact ho
 ·simp only [Option.map_eq_some_iff] at ho ⊢
  obtain ⟨q, hq, he⟩ := ho
  exact ⟨q, call_le le hq, he⟩
 ·exact ho
 ·exact ho
 ·exact ho

theorem ops_le (le : RecLe R R') {ops : Array Oper} : ∀ {l : List Nat} {e : Env} {h : Heap} {r : Xt × Env × Heap}, opsEv P G R ops l e h = some r → opsEv P G R' ops l e h = some r := by
 intro l
 induction l with
 | nil => intro e h r ho; exact ho
 | cons i l ih =>
  intro e h r ho
  simp only [opsEv] at ho ⊢
  cases hoi : ops[i]? with
  | none => rw [hoi] at ho; cases ho
  | some o =>
   rw [hoi] at ho
   simp only at ho ⊢
   cases hw : wantedA ops e o with
   | none => rw [hw] at ho; cases ho
   | some b =>
    rw [hw] at ho
    cases b with
    | false => exact ih ho
    | true =>
     simp only at ho ⊢
     cases hop : opEv P G R e h o with
     | none => rw [hop] at ho; cases ho
     | some q =>
      rw [hop] at ho
      rw [op_le le hop]
      obtain ⟨r1, e1, h1⟩ := q
      cases r1 with
      | ret x => exact ih ho
      | panic x => exact ho

theorem stable_le (le : RecLe R R') {ops : Array Oper} {e : Env} {h : Heap} {r m : Nat} (hs : stable P G R ops e h r m = true) : stable P G R' ops e h r m = true := by
 unfold stable at hs ⊢
 split at hs
 ·rename_i o er hr em hm h1 h2 h3
  rw [h1, ops_le le h2, ops_le le h3]
  exact hs
 ·cases hs

theorem calmB_of {ops : Array Oper} {e : Env} {h : Heap} {k : Nat} : calmB P G R ops e h k = true ↔ calmP P G R ops e h k := by unfold calmB; exact @decide_eq_true_iff _ (Classical.propDecidable _)
theorem calm_le (le : RecLe R R') {ops : Array Oper} {e : Env} {h : Heap} {k : Nat} (hc : calmB P G R ops e h k = true) : calmB P G R' ops e h k = true := by
 rw [calmB_of] at hc ⊢
 obtain ⟨o, c, x, er, hr, h1, h2, h3, h4⟩ := hc
 refine ⟨o, c, x, er, hr, h1, h2, ops_le le h3, fun m hm => ?_⟩
 obtain ⟨em, hm', h5, h6⟩ := h4 m hm
 exact ⟨em, hm', ops_le le h5, call_le le h6⟩
theorem fits_le (le : RecLe R R') {ops : Array Oper} {e : Env} {h : Heap} (hs : drawFits P G R ops e h = true) : drawFits P G R' ops e h = true := by
 unfold drawFits at hs ⊢
 simp only [Bool.and_eq_true, List.all_eq_true, List.mem_range, Bool.or_eq_true] at hs ⊢
 refine ⟨hs.1, fun j hj i hi => ?_⟩
 rcases hs.2 j hj i hi with ((h1 | h1) | h1) | h1
 ·exact .inl (.inl (.inl h1))
 ·exact .inl (.inl (.inr h1))
 ·refine .inl (.inr ?_)
  unfold stableOk at h1 ⊢
  rw [Bool.and_eq_true] at h1 ⊢
  refine ⟨h1.1, ?_⟩
  have h2 := h1.2
  split at h2
  ·rename_i hx hy; (try simp only [hx, hy]); exact stable_le le h2
  ·rename_i hx hy; (try simp only [hx, hy]); exact stable_le le h2
  ·cases h2
 ·exact .inr ⟨h1.1, h1.2.imp (calm_le le) (calm_le le)⟩

theorem normal_le (le : RecLe R R') {ops : Array Oper} {l : List Nat} {e : Env} {h : Heap} (hn : isNormal (opsEv P G R ops l e h) = true) : isNormal (opsEv P G R' ops l e h) = true := by
 cases hq : opsEv P G R ops l e h with
 | none => rw [hq] at hn; cases hn
 | some q => rw [hq] at hn; rw [ops_le le hq]; exact hn

theorem panic_le (le : RecLe R R') {ops : Array Oper} {l : List Nat} {e : Env} {h : Heap} (hn : isPanic (opsEv P G R ops l e h) = true) : isPanic (opsEv P G R' ops l e h) = true := by
 cases hq : opsEv P G R ops l e h with
 | none => rw [hq] at hn; cases hn
 | some q => rw [hq] at hn; rw [ops_le le hq]; exact hn
theorem midAt_le (le : RecLe R R') {ops : Array Oper} {e : Env} {h : Heap} {k : Nat} (hm : midAt P G R ops e h k = true) : midAt P G R' ops e h k = true := by
 unfold midAt at hm ⊢
 simp only [Bool.and_eq_true] at hm ⊢
 exact ⟨hm.1, fits_le le hm.2.1, normal_le le hm.2.2.1, normal_le le hm.2.2.2.1, panic_le le hm.2.2.2.2⟩
theorem midEv_le (le : RecLe R R') {ops : Array Oper} {e : Env} {h : Heap} {r : Xt × Env × Heap} (hr : midEv P G R ops e h = some r) : midEv P G R' ops e h = some r := by
 obtain ⟨k, x, ep, hp, hm, hq, rfl⟩ := midEv_inv hr
 exact midEv_eq (midAt_le le hm) (ops_le le hq)

theorem swapB_le (le : RecLe R R') {ops : Array Oper} {e : Env} {h : Heap} (D : swapB P G R ops e h = true) : swapB P G R' ops e h = true := by
 obtain ⟨i, h1, h2, h3⟩ := swapB_inv D
 exact swapB_of h1 h2 (fits_le le h3)

theorem code_le (le : RecLe R R') {c : Code} {e : Env} {h : Heap} {r : Xt × Env × Heap} (hc : codeEv P G R c e h = some r) : codeEv P G R' c e h = some r := by
 cases c with
 | region id ops draw =>
  cases draw with
  | false => simp only [codeEv, Bool.false_eq_true, if_false] at hc ⊢; exact ops_le le hc
  | true =>
   by_cases hmid : midEv P G R ops e h = some r
   ·exact mid_code (midEv_le le hmid)
   simp only [codeEv, if_true] at hc ⊢
   split at hc
   ·rename_i hf
    rw [if_pos (fits_le le hf)]
    split at hc
    ·rename_i h1
     simp only [ops_le le h1]
     exact hc
    ·rename_i h1
     simp only [ops_le le h1]
     split at hc
     ·rename_i hck
      rw [if_pos (by
       simp only [Bool.and_eq_true] at hck ⊢
       exact ⟨hck.1, fits_le le hck.2.1, normal_le le hck.2.2⟩)]
      exact hc
     ·exact absurd hc hmid
    ·cases hc
   ·split at hc
    ·rename_i hdr
     split at hc
     ·rename_i h1
      have D := swapB_le le hdr
      simp only [ops_le le h1, D, if_true]
      split <;> exact hc
     ·exact absurd hc hmid
    ·exact absurd hc hmid
 | seq a b =>
  simp only [codeEv] at hc ⊢
  cases ha : R.code a e h with
  | none => rw [ha] at hc; cases hc
  | some q =>
   rw [ha] at hc
   rw [le.code _ _ _ _ ha]
   obtain ⟨o, e1, h1⟩ := q
   cases o with
   | normal => exact le.code _ _ _ _ hc
   | _ => exact hc
 | cond q a b =>
  simp only [codeEv] at hc ⊢
  split at hc
  ·rename_i h1; (try simp only [h1]); exact le.code _ _ _ _ hc
  ·rename_i h1; (try simp only [h1]); exact le.code _ _ _ _ hc
  ·cases hc
 | block id a =>
  simp only [codeEv] at hc ⊢
  cases ha : R.code a e h with
  | none => rw [ha] at hc; cases hc
  | some q =>
   rw [ha] at hc
   rw [le.code _ _ _ _ ha]
   exact hc
 | loop a =>
  simp only [codeEv] at hc ⊢
  cases ha : R.code a e h with
  | none => rw [ha] at hc; cases hc
  | some q =>
   rw [ha] at hc
   rw [le.code _ _ _ _ ha]
   obtain ⟨o, e1, h1⟩ := q
   cases o with
   | normal => exact le.code _ _ _ _ hc
   | _ => exact hc
 | rangeFunc f ps a b =>
  simp only [codeEv] at hc ⊢
  split at hc
  ·rename_i g first cap hev
   (try simp only [hev])
   generalize hcl : R.call g _ _ = q at hc
   cases q with
   | none => cases hc
   | some q => rw [le.call _ _ _ _ hcl]; exact hc
  ·cases hc
 | _ => exact hc

theorem unwind_le (le : RecLe R R') {fn : Func} {e : Env} : ∀ {ds : List (FuncId × List AV)} {m : Option (AV × Bool)} {h : Heap} {r : Res × Heap}, unwindEv P G R fn e ds m h = some r → unwindEv P G R' fn e ds m h = some r := by
 intro ds
 induction ds with
 | nil => intro m h r hu; cases m <;> exact hu
 | cons d ds ih =>
  intro m h r hu
  obtain ⟨g, args⟩ := d
  simp only [unwindEv] at hu ⊢
  cases hd : R.dcall g args m h with
  | none => rw [hd] at hu; cases hu
  | some q =>
   rw [hd] at hu
   rw [le.dcall _ _ _ _ _ hd]
   obtain ⟨r1, m1, h1⟩ := q
   cases r1 with
   | panic x => exact hu
   | ret x =>
    rcases m1 with _ | ⟨y, b⟩
    ·exact ih hu
    ·cases b <;> exact ih hu

theorem body_le (le : RecLe R R') {g : FuncId} {args : List AV} {m : Option (AV × Bool)} {h : Heap} {r : Res × Option (AV × Bool) × Heap} (hb : bodyEv P G R g args m h = some r) : bodyEv P G R' g args m h = some r := by
 unfold bodyEv at hb ⊢
 split at hb
 ·cases hb
 ·rename_i fn hfn
  rw [hfn] at *
  simp only
  split at hb
  ·cases hb
  ·rename_i body hbody
   rw [hbody] at *
   (try simp only)
   generalize hcd : R.code body _ h = q at hb
   cases q with
   | none => cases hb
   | some q =>
    rw [le.code _ _ _ _ hcd]
    obtain ⟨o, e1, h1⟩ := q
    cases o with
    | exit id => cases hb
    | _ =>
     simp only [Option.map_eq_some_iff] at hb ⊢
     obtain ⟨q, hq, he⟩ := hb
     exact ⟨q, unwind_le le hq, he⟩

theorem func_le (le : RecLe R R') {prims : FuncId → Option (List AV → Heap → Option (AV × Heap))} {g : FuncId} {args : List AV} {h : Heap} {r : Res × Heap} (hb : funcEv P G R prims g args h = some r) : funcEv P G R' prims g args h = some r := by
 unfold funcEv at hb ⊢
 split at hb
 ·exact hb
 ·simp only [Option.map_eq_some_iff] at hb ⊢
  obtain ⟨q, hq, he⟩ := hb
  exact ⟨q, body_le le hq, he⟩

theorem round_le (le : RecLe R R') {l : Nat} {args : List AV} {h : Heap} {r : Res × Heap} (hb : roundEv R l args h = some r) : roundEv R' l args h = some r := by
 unfold roundEv at hb ⊢
 split at hb
 ·cases hb
 ·split at hb
  ·rename_i hsz
   simp only [hsz, if_true]
   split at hb
   ·rename_i e1 h1 ha
    simp only [le.code _ _ _ _ ha]
    split at hb
    ·rename_i r2 hr2
     split at hb
     ·rename_i hst
      simp only [hst, if_true]
      generalize hcd : R.code _ e1 _ = q at hb
      cases q with
      | none => cases hb
      | some q => rw [le.code _ _ _ _ hcd]; exact hb
     ·cases hb
    ·cases hb
   ·cases hb
  ·cases hb

variable {prims : FuncId → Option (List AV → Heap → Option (AV × Heap))}

theorem recs_step (n : Nat) : RecLe (recs P G prims n) (recs P G prims (n + 1)) := by
 induction n with
 | zero =>
  refine ⟨?_, ?_, ?_, ?_⟩
  ·intro c e h r hh; cases hh
  ·intro g a h r hh; cases hh
  ·intro g a m h r hh; cases hh
  ·intro l a h r hh; cases hh
 | succ n ih => exact ⟨fun c e h r hh => code_le ih hh, fun g a h r hh => func_le ih hh, fun g a m h r hh => body_le ih hh, fun l a h r hh => round_le ih hh⟩

theorem recs_le {n m : Nat} (h : n ≤ m) : RecLe (recs P G prims n) (recs P G prims m) := by
 induction m with
 | zero => rw [Nat.le_zero.1 h]; exact ⟨fun _ _ _ _ h => h, fun _ _ _ _ h => h, fun _ _ _ _ _ h => h, fun _ _ _ _ h => h⟩
 | succ m ih =>
  rcases Nat.lt_or_ge n (m + 1) with hlt | hge
  ·have h1 := ih (Nat.lt_succ_iff.1 hlt)
   have h2 := recs_step (P := P) (G := G) (prims := prims) m
   exact ⟨fun c e h r hh => h2.code _ _ _ _ (h1.code _ _ _ _ hh), fun g a h r hh => h2.call _ _ _ _ (h1.call _ _ _ _ hh), fun g a m h r hh => h2.dcall _ _ _ _ _ (h1.dcall _ _ _ _ _ hh), fun l a h r hh => h2.round _ _ _ _ (h1.round _ _ _ _ hh)⟩
  ·rw [Nat.le_antisymm h hge]; exact ⟨fun _ _ _ _ h => h, fun _ _ _ _ h => h, fun _ _ _ _ _ h => h, fun _ _ _ _ h => h⟩

end

noncomputable def limit {α : Type} (f : Nat → Option α) : Option α := by
 classical
 exact if h : ∃ r n, f n = some r then some h.choose else none

theorem limit_eq {α : Type} {f : Nat → Option α} (hm : ∀ n m r, n ≤ m → f n = some r → f m = some r) {n : Nat} {r : α} (h : f n = some r) : limit f = some r := by
 unfold limit
 have hex : ∃ r n, f n = some r := ⟨r, n, h⟩
 rw [dif_pos hex]
 obtain ⟨m, hm2⟩ := hex.choose_spec
 have h1 := hm _ _ _ (Nat.le_max_left n m) h
 have h2 := hm _ _ _ (Nat.le_max_right n m) hm2
 rw [h1] at h2
 exact h2.symm

theorem limit_some {α : Type} {f : Nat → Option α} {r : α} (h : limit f = some r) : ∃ n, f n = some r := by
 unfold limit at h
 split at h
 ·rename_i hex
  injection h with h
  rw [← h]
  exact hex.choose_spec
 ·cases h

section
variable (P : Program) (G : Nat → Option (List AV)) (prims : FuncId → Option (List AV → Heap → Option (AV × Heap)))

noncomputable def whole : Rec where
 code c e h := limit fun n => (recs P G prims n).code c e h
 call g a h := limit fun n => (recs P G prims n).call g a h
 dcall g a m h := limit fun n => (recs P G prims n).dcall g a m h
 round l a h := limit fun n => (recs P G prims n).round l a h
end

section
variable {P : Program} {G : Nat → Option (List AV)} {prims : FuncId → Option (List AV → Heap → Option (AV × Heap))}

theorem whole_ge (n : Nat) : RecLe (recs P G prims n) (whole P G prims) :=
 ⟨fun _ _ _ _ h => limit_eq (fun _ _ _ hl hh => (recs_le hl).code _ _ _ _ hh) h, fun _ _ _ _ h => limit_eq (fun _ _ _ hl hh => (recs_le hl).call _ _ _ _ hh) h,
  fun _ _ _ _ _ h => limit_eq (fun _ _ _ hl hh => (recs_le hl).dcall _ _ _ _ _ hh) h, fun _ _ _ _ h => limit_eq (fun _ _ _ hl hh => (recs_le hl).round _ _ _ _ hh) h⟩

theorem whole_sim {w0 : World} (hp : Prog P) (hprim : ∀ g p, prims g = some p → PrimOk P G w0 g p) : SimRec P G w0 (whole P G prims) := by
 refine ⟨?_, ?_, ?_, ?_⟩
 ·intro c e h out e' h' he
  obtain ⟨n, hn⟩ := limit_some he
  exact (recs_sim hp hprim n).code c e h out e' h' hn
 ·intro g args h r h' he
  obtain ⟨n, hn⟩ := limit_some he
  exact (recs_sim hp hprim n).call g args h r h' hn
 ·intro g args m h x m' h' he
  obtain ⟨n, hn⟩ := limit_some he
  exact (recs_sim hp hprim n).dcall g args m h x m' h' hn
 ·intro l args h r h' he
  obtain ⟨n, hn⟩ := limit_some he
  exact (recs_sim hp hprim n).round l args h r h' hn

theorem two {α β : Type} {f : Nat → Option α} {g : Nat → Option β} {a : α} {b : β} (hf : ∀ n m r, n ≤ m → f n = some r → f m = some r) (hg : ∀ n m r, n ≤ m → g n = some r → g m = some r) (h1 : ∃ n, f n = some a) (h2 : ∃ n, g n = some b) :
 ∃ n, f n = some a ∧ g n = some b := by
 obtain ⟨n, h1⟩ := h1
 obtain ⟨m, h2⟩ := h2
 exact ⟨max n m, hf _ _ _ (Nat.le_max_left _ _) h1, hg _ _ _ (Nat.le_max_right _ _) h2⟩

theorem call_fin {e : Env} {h : Heap} {c : Call} {r : Res × Heap} (hc : callEv P (whole P G prims) e h c = some r) : ∃ n, callEv P (recs P G prims n) e h c = some r := by
 unfold callEv at hc ⊢
 cases hcc : c.callee with
 | builtin b => rw [hcc] at hc; cases hc
 | value f =>
  simp only [hcc] at hc ⊢
  split at hc
  ·exact limit_some hc
  ·exact limit_some hc
  ·cases hc
 | invoke v m =>
  simp only [hcc] at hc ⊢
  split at hc
  ·split at hc
   ·rename_i h2; (try simp only [h2]); exact limit_some hc
   ·cases hc
  ·cases hc

theorem op_fin {e : Env} {h : Heap} {o : Oper} {r : Res × Env × Heap} (ho : opEv P G (whole P G prims) e h o = some r) : ∃ n, opEv P G (recs P G prims n) e h o = some r := by
 unfold opEv at ho ⊢
 split at ho
 ·exact ⟨0, ho⟩
 ·exact ⟨0, ho⟩
 ·exact ⟨0, ho⟩
 ·simp only [Option.map_eq_some_iff] at ho ⊢
  obtain ⟨q, hq, he⟩ := ho
  obtain ⟨n, hn⟩ := call_fin hq
  exact ⟨n, q, hn, he⟩
 ·exact ⟨0, ho⟩
 ·exact ⟨0, ho⟩
 ·exact ⟨0, ho⟩

theorem ops_fin {ops : Array Oper} : ∀ {l : List Nat} {e : Env} {h : Heap} {r : Xt × Env × Heap}, opsEv P G (whole P G prims) ops l e h = some r → ∃ n, opsEv P G (recs P G prims n) ops l e h = some r := by
 intro l
 induction l with
 | nil => intro e h r ho; exact ⟨0, ho⟩
 | cons i l ih =>
  intro e h r ho
  simp only [opsEv] at ho ⊢
  cases hoi : ops[i]? with
  | none => rw [hoi] at ho; cases ho
  | some o =>
   rw [hoi] at ho
   simp only at ho ⊢
   cases hw : wantedA ops e o with
   | none => rw [hw] at ho; cases ho
   | some b =>
    rw [hw] at ho
    cases b with
    | false => exact ih ho
    | true =>
     simp only at ho ⊢
     cases hop : opEv P G (whole P G prims) e h o with
     | none => rw [hop] at ho; cases ho
     | some q =>
      rw [hop] at ho
      have h1 := op_fin hop
      obtain ⟨r1, e1, hh1⟩ := q
      cases r1 with
      | panic x =>
       obtain ⟨n, hn⟩ := h1
       exact ⟨n, by rw [hn]; exact ho⟩
      | ret x =>
       obtain ⟨n, h1, h2⟩ := two (fun _ _ _ hl hh => op_le (recs_le hl) hh) (fun _ _ _ hl hh => ops_le (recs_le hl) hh) h1 (ih ho)
       exact ⟨n, by rw [h1]; exact h2⟩

theorem stable_fin {ops : Array Oper} {e : Env} {h : Heap} {r m : Nat} (hs : stable P G (whole P G prims) ops e h r m = true) : ∃ n, stable P G (recs P G prims n) ops e h r m = true := by
 unfold stable at hs ⊢
 split at hs
 ·rename_i o er hr em hm h1 h2 h3
  obtain ⟨n, h2, h3⟩ := two (fun _ _ _ hl hh => ops_le (recs_le hl) hh) (fun _ _ _ hl hh => ops_le (recs_le hl) hh) (ops_fin h2) (ops_fin h3)
  refine ⟨n, ?_⟩
  rw [h1, h2, h3]
  exact hs
 ·cases hs

theorem many {p : Nat → Nat → Prop} (hm : ∀ i n m, n ≤ m → p i n → p i m) : ∀ k, (∀ i, i < k → ∃ n, p i n) → ∃ n, ∀ i, i < k → p i n := by
 intro k
 induction k with
 | zero => intro _; exact ⟨0, fun i hi => absurd hi (Nat.not_lt_zero i)⟩
 | succ k ih =>
  intro h
  obtain ⟨n, hn⟩ := ih fun i hi => h i (Nat.lt_succ_of_lt hi)
  obtain ⟨m, hm2⟩ := h k (Nat.lt_succ_self k)
  refine ⟨max n m, fun i hi => ?_⟩
  rcases Nat.lt_or_ge i k with hlt | hge
  ·exact hm _ _ _ (Nat.le_max_left _ _) (hn i hlt)
  ·rw [Nat.le_antisymm (Nat.lt_succ_iff.1 hi) hge]
   exact hm _ _ _ (Nat.le_max_right _ _) hm2

theorem stableOk_le {R R' : Rec} (le : RecLe R R') {ops : Array Oper} {e : Env} {h : Heap} {i j : Nat} (h1 : stableOk P G R ops e h i j = true) : stableOk P G R' ops e h i j = true := by
 unfold stableOk at h1 ⊢
 rw [Bool.and_eq_true] at h1 ⊢
 refine ⟨h1.1, ?_⟩
 have h2 := h1.2
 split at h2
 ·rename_i hx hy; (try simp only [hx, hy]); exact stable_le le h2
 ·rename_i hx hy; (try simp only [hx, hy]); exact stable_le le h2
 ·cases h2

theorem stableOk_fin {ops : Array Oper} {e : Env} {h : Heap} {i j : Nat} (h1 : stableOk P G (whole P G prims) ops e h i j = true) : ∃ n, stableOk P G (recs P G prims n) ops e h i j = true := by
 unfold stableOk at h1 ⊢
 rw [Bool.and_eq_true] at h1
 have h2 := h1.2
 split at h2
 ·rename_i hx hy
  obtain ⟨n, hn⟩ := stable_fin h2
  exact ⟨n, by rw [Bool.and_eq_true]; exact ⟨h1.1, by (try simp only [hx, hy]); exact hn⟩⟩
 ·rename_i hx hy
  obtain ⟨n, hn⟩ := stable_fin h2
  exact ⟨n, by rw [Bool.and_eq_true]; exact ⟨h1.1, by (try simp only [hx, hy]); exact hn⟩⟩
 ·cases h2

theorem calm_fin {ops : Array Oper} {e : Env} {h : Heap} {k : Nat} (hc : calmB P G (whole P G prims) ops e h k = true) : ∃ n, calmB P G (recs P G prims n) ops e h k = true := by
 rw [calmB_of] at hc
 obtain ⟨o, c, x, er, hr, h1, h2, h3, h4⟩ := hc
 obtain ⟨n0, h3⟩ := ops_fin h3
 have key : ∀ m, m < ops.size + 1 → ∃ n, ∃ em hm, opsEv P G (recs P G prims n) ops (List.range m) e h = some (.normal, em, hm) ∧ callEv P (recs P G prims n) er hm c = some (.ret x, hm) := by
  intro m hm
  obtain ⟨em, hm', h5, h6⟩ := h4 m (Nat.lt_succ_iff.1 hm)
  obtain ⟨n, q1, q2⟩ := two (fun _ _ _ hl hh => ops_le (recs_le hl) hh) (fun _ _ _ hl hh => call_le (recs_le hl) hh) (ops_fin h5) (call_fin h6)
  exact ⟨n, em, hm', q1, q2⟩
 obtain ⟨n1, hn⟩ := many (p := fun m n => ∃ em hm, opsEv P G (recs P G prims n) ops (List.range m) e h = some (.normal, em, hm) ∧ callEv P (recs P G prims n) er hm c = some (.ret x, hm))
  (fun m n n' hl ⟨em, hm, q1, q2⟩ => ⟨em, hm, ops_le (recs_le hl) q1, call_le (recs_le hl) q2⟩) (ops.size + 1) key
 refine ⟨max n0 n1, ?_⟩
 rw [calmB_of]
 refine ⟨o, c, x, er, hr, h1, h2, ops_le (recs_le (Nat.le_max_left _ _)) h3, fun m hm => ?_⟩
 obtain ⟨em, hm', q1, q2⟩ := hn m (Nat.lt_succ_iff.2 hm)
 exact ⟨em, hm', ops_le (recs_le (Nat.le_max_right _ _)) q1, call_le (recs_le (Nat.le_max_right _ _)) q2⟩

noncomputable def pairB (P : Program) (G : Nat → Option (List AV)) (R : Rec) (ops : Array Oper) (e : Env) (h : Heap) (i j : Nat) : Bool :=
 ((Region.before ops).getD j 0).testBit i || passOk ops i j || stableOk P G R ops e h i j || (apartOk ops i j && (calmB P G R ops e h i || calmB P G R ops e h j))
theorem pair_le {R R' : Rec} (le : RecLe R R') {ops : Array Oper} {e : Env} {h : Heap} {i j : Nat} (hp : pairB P G R ops e h i j = true) : pairB P G R' ops e h i j = true := by
 unfold pairB at hp ⊢
 simp only [Bool.or_eq_true, Bool.and_eq_true] at hp ⊢
 rcases hp with (h1 | h1) | h1
 ·exact .inl (.inl h1)
 ·exact .inl (.inr (stableOk_le le h1))
 ·exact .inr ⟨h1.1, h1.2.imp (calm_le le) (calm_le le)⟩
theorem pair_fin {ops : Array Oper} {e : Env} {h : Heap} {i j : Nat} (hp : pairB P G (whole P G prims) ops e h i j = true) : ∃ n, pairB P G (recs P G prims n) ops e h i j = true := by
 unfold pairB at hp ⊢
 simp only [Bool.or_eq_true, Bool.and_eq_true] at hp ⊢
 rcases hp with (h1 | h1) | ⟨h1, h2 | h2⟩
 ·exact ⟨0, .inl (.inl h1)⟩
 ·obtain ⟨n, hn⟩ := stableOk_fin h1
  exact ⟨n, .inl (.inr hn)⟩
 ·obtain ⟨n, hn⟩ := calm_fin h2
  exact ⟨n, .inr ⟨h1, .inl hn⟩⟩
 ·obtain ⟨n, hn⟩ := calm_fin h2
  exact ⟨n, .inr ⟨h1, .inr hn⟩⟩
theorem fits_fin {ops : Array Oper} {e : Env} {h : Heap} (hs : drawFits P G (whole P G prims) ops e h = true) : ∃ n, drawFits P G (recs P G prims n) ops e h = true := by
 unfold drawFits at hs ⊢
 simp only [Bool.and_eq_true, List.all_eq_true, List.mem_range] at hs ⊢
 obtain ⟨h1, h2⟩ := hs
 have key : ∀ j, j < ops.size → ∃ n, ∀ i, i < j → pairB P G (recs P G prims n) ops e h i j = true := by
  intro j hj
  exact many (p := fun i n => pairB P G (recs P G prims n) ops e h i j = true) (fun i n m hl => pair_le (recs_le hl)) j fun i hi => pair_fin (h2 j hj i hi)
 obtain ⟨n, hn⟩ := many (p := fun j n => ∀ i, i < j → pairB P G (recs P G prims n) ops e h i j = true) (fun j n m hl hh i hi => pair_le (recs_le hl) (hh i hi)) ops.size key
 exact ⟨n, h1, hn⟩

theorem opsq_fin {ops : Array Oper} {l : List Nat} {e : Env} {h : Heap} {p : Option (Xt × Env × Heap) → Bool} (h0 : p none = false) (hp : p (opsEv P G (whole P G prims) ops l e h) = true) : ∃ n, p (opsEv P G (recs P G prims n) ops l e h) = true := by
 cases hq : opsEv P G (whole P G prims) ops l e h with
 | none => rw [hq, h0] at hp; cases hp
 | some q =>
  obtain ⟨n, hn⟩ := ops_fin hq
  rw [hq] at hp
  exact ⟨n, by rw [hn]; exact hp⟩
theorem midEv_fin {ops : Array Oper} {e : Env} {h : Heap} {r : Xt × Env × Heap} (hr : midEv P G (whole P G prims) ops e h = some r) : ∃ n, midEv P G (recs P G prims n) ops e h = some r := by
 obtain ⟨k, x, ep, hp, hm, hq, rfl⟩ := midEv_inv hr
 have hm' := hm
 unfold midAt at hm'
 simp only [Bool.and_eq_true] at hm'
 obtain ⟨n1, a1⟩ := fits_fin hm'.2.1
 obtain ⟨n2, a2⟩ := opsq_fin (p := isNormal) rfl hm'.2.2.1
 obtain ⟨n3, a3⟩ := opsq_fin (p := isNormal) rfl hm'.2.2.2.1
 obtain ⟨n4, a4⟩ := opsq_fin (p := isPanic) rfl hm'.2.2.2.2
 obtain ⟨n5, a5⟩ := ops_fin hq
 let m := max (max (max n1 n2) (max n3 n4)) n5
 have l1 : n1 ≤ m := Nat.le_trans (Nat.le_trans (Nat.le_max_left n1 n2) (Nat.le_max_left _ _)) (Nat.le_max_left _ _)
 have l2 : n2 ≤ m := Nat.le_trans (Nat.le_trans (Nat.le_max_right n1 n2) (Nat.le_max_left _ _)) (Nat.le_max_left _ _)
 have l3 : n3 ≤ m := Nat.le_trans (Nat.le_trans (Nat.le_max_left n3 n4) (Nat.le_max_right _ _)) (Nat.le_max_left _ _)
 have l4 : n4 ≤ m := Nat.le_trans (Nat.le_trans (Nat.le_max_right n3 n4) (Nat.le_max_right _ _)) (Nat.le_max_left _ _)
 have l5 : n5 ≤ m := Nat.le_max_right _ _
 refine ⟨m, midEv_eq ?_ (ops_le (recs_le l5) a5)⟩
 unfold midAt
 simp only [Bool.and_eq_true]
 exact ⟨hm'.1, fits_le (recs_le l1) a1, normal_le (recs_le l2) a2, normal_le (recs_le l3) a3, panic_le (recs_le l4) a4⟩

theorem swapB_fin {ops : Array Oper} {e : Env} {h : Heap} (D : swapB P G (whole P G prims) ops e h = true) : ∃ n, swapB P G (recs P G prims n) ops e h = true := by
 obtain ⟨i, h1, h2, h3⟩ := swapB_inv D
 obtain ⟨n, hn⟩ := fits_fin h3
 exact ⟨n, swapB_of h1 h2 hn⟩

theorem code_fin {c : Code} {e : Env} {h : Heap} {r : Xt × Env × Heap} (hc : codeEv P G (whole P G prims) c e h = some r) : ∃ n, codeEv P G (recs P G prims n) c e h = some r := by
 cases c with
 | region id ops draw =>
  cases draw with
  | false => simp only [codeEv, Bool.false_eq_true, if_false] at hc ⊢; exact ops_fin hc
  | true =>
   by_cases hmid : midEv P G (whole P G prims) ops e h = some r
   ·obtain ⟨n, hn⟩ := midEv_fin hmid
    exact ⟨n, mid_code hn⟩
   simp only [codeEv, if_true] at hc ⊢
   split at hc
   ·rename_i hf
    split at hc
    ·rename_i h1
     obtain ⟨n, hn⟩ := fits_fin hf
     obtain ⟨m, hm⟩ := ops_fin h1
     refine ⟨max n m, ?_⟩
     rw [if_pos (fits_le (recs_le (Nat.le_max_left n m)) hn)]
     simp only [ops_le (recs_le (Nat.le_max_right n m)) hm]
     exact hc
    ·rename_i h1
     split at hc
     ·rename_i hck
      simp only [Bool.and_eq_true] at hck
      obtain ⟨n, hn⟩ := fits_fin hf
      obtain ⟨m, hm⟩ := ops_fin h1
      obtain ⟨n2, hn2⟩ := fits_fin hck.2.1
      obtain ⟨m2, hm2⟩ : ∃ m2, isNormal (opsEv P G (recs P G prims m2) (hush ops) (List.range (hush ops).size) e h) = true := by
       have q2 := hck.2.2
       cases hq : opsEv P G (whole P G prims) (hush ops) (List.range (hush ops).size) e h with
       | none => rw [hq] at q2; cases q2
       | some q =>
        obtain ⟨m2, hm2⟩ := ops_fin hq
        rw [hq] at q2
        exact ⟨m2, by rw [hm2]; exact q2⟩
      refine ⟨max (max n m) (max n2 m2), ?_⟩
      rw [if_pos (fits_le (recs_le (Nat.le_trans (Nat.le_max_left n m) (Nat.le_max_left _ _))) hn)]
      simp only [ops_le (recs_le (Nat.le_trans (Nat.le_max_right n m) (Nat.le_max_left _ _))) hm]
      rw [if_pos (by
       simp only [Bool.and_eq_true]
       exact ⟨hck.1, fits_le (recs_le (Nat.le_trans (Nat.le_max_left n2 m2) (Nat.le_max_right _ _))) hn2, normal_le (recs_le (Nat.le_trans (Nat.le_max_right n2 m2) (Nat.le_max_right _ _))) hm2⟩)]
      exact hc
     ·exact absurd hc hmid
    ·cases hc
   ·split at hc
    ·rename_i hdr
     split at hc
     ·rename_i h1
      obtain ⟨n, hn⟩ := swapB_fin hdr
      obtain ⟨m, hm⟩ := ops_fin h1
      refine ⟨max n m, ?_⟩
      have D := swapB_le (recs_le (Nat.le_max_left n m)) hn
      simp only [ops_le (recs_le (Nat.le_max_right n m)) hm, D, if_true]
      split <;> exact hc
     ·exact absurd hc hmid
    ·exact absurd hc hmid
 | seq a b =>
  simp only [codeEv] at hc ⊢
  cases ha : (whole P G prims).code a e h with
  | none => rw [ha] at hc; cases hc
  | some q =>
   rw [ha] at hc
   have h1 := limit_some ha
   obtain ⟨o, e1, hh1⟩ := q
   by_cases hno : o = .normal
   ·subst hno
    obtain ⟨n, h1, h2⟩ := two (fun _ _ _ hl hh => (recs_le hl).code _ _ _ _ hh) (fun _ _ _ hl hh => (recs_le hl).code _ _ _ _ hh) h1 (limit_some hc)
    exact ⟨n, by rw [h1]; exact h2⟩
   ·obtain ⟨n, h1⟩ := h1
    refine ⟨n, ?_⟩
    rw [h1]
    cases o <;> first | exact absurd rfl hno | exact hc
 | cond q a b =>
  simp only [codeEv] at hc ⊢
  split at hc
  ·exact limit_some hc
  ·exact limit_some hc
  ·cases hc
 | block id a =>
  simp only [codeEv] at hc ⊢
  cases ha : (whole P G prims).code a e h with
  | none => rw [ha] at hc; cases hc
  | some q =>
   rw [ha] at hc
   obtain ⟨n, h1⟩ := limit_some ha
   exact ⟨n, by rw [h1]; exact hc⟩
 | loop a =>
  simp only [codeEv] at hc ⊢
  cases ha : (whole P G prims).code a e h with
  | none => rw [ha] at hc; cases hc
  | some q =>
   rw [ha] at hc
   have h1 := limit_some ha
   obtain ⟨o, e1, hh1⟩ := q
   by_cases hno : o = .normal
   ·subst hno
    obtain ⟨n, h1, h2⟩ := two (fun _ _ _ hl hh => (recs_le hl).code _ _ _ _ hh) (fun _ _ _ hl hh => (recs_le hl).code _ _ _ _ hh) h1 (limit_some hc)
    exact ⟨n, by rw [h1]; exact h2⟩
   ·obtain ⟨n, h1⟩ := h1
    refine ⟨n, ?_⟩
    rw [h1]
    cases o <;> first | exact absurd rfl hno | exact hc
 | rangeFunc f ps a b =>
  simp only [codeEv] at hc ⊢
  split at hc
  ·generalize hcl : (whole P G prims).call _ _ _ = q at hc
   cases q with
   | none => cases hc
   | some q =>
    obtain ⟨n, hn⟩ := limit_some hcl
    exact ⟨n, by rw [hn]; exact hc⟩
  ·cases hc
 | _ => exact ⟨0, hc⟩

theorem unwind_fin {fn : Func} {e : Env} : ∀ {ds : List (FuncId × List AV)} {m : Option (AV × Bool)} {h : Heap} {r : Res × Heap}, unwindEv P G (whole P G prims) fn e ds m h = some r → ∃ n, unwindEv P G (recs P G prims n) fn e ds m h = some r := by
 intro ds
 induction ds with
 | nil => intro m h r hu; exact ⟨0, by cases m <;> exact hu⟩
 | cons d ds ih =>
  intro m h r hu
  obtain ⟨g, args⟩ := d
  simp only [unwindEv] at hu ⊢
  cases hd : (whole P G prims).dcall g args m h with
  | none => rw [hd] at hu; cases hu
  | some q =>
   rw [hd] at hu
   have h1 := limit_some hd
   obtain ⟨r1, m1, hh1⟩ := q
   cases r1 with
   | panic x => simp at hu
   | ret x =>
    have fin : ∀ m2, unwindEv P G (whole P G prims) fn e ds m2 hh1 = some r → ∃ n, (recs P G prims n).dcall g args m h = some (.ret x, m1, hh1) ∧ unwindEv P G (recs P G prims n) fn e ds m2 hh1 = some r := fun m2 hu =>
     two (fun _ _ _ hl hh => (recs_le hl).dcall _ _ _ _ _ hh) (fun _ _ _ hl hh => unwind_le (recs_le hl) hh) h1 (ih hu)
    rcases m1 with _ | ⟨y, b⟩
    ·obtain ⟨n, h1, h2⟩ := fin _ hu
     exact ⟨n, by rw [h1]; exact h2⟩
    ·cases b with
     | true => obtain ⟨n, h1, h2⟩ := fin _ hu; exact ⟨n, by rw [h1]; exact h2⟩
     | false => obtain ⟨n, h1, h2⟩ := fin _ hu; exact ⟨n, by rw [h1]; exact h2⟩

theorem body_fin {g : FuncId} {args : List AV} {m : Option (AV × Bool)} {h : Heap} {r : Res × Option (AV × Bool) × Heap} (hb : bodyEv P G (whole P G prims) g args m h = some r) : ∃ n, bodyEv P G (recs P G prims n) g args m h = some r := by
 unfold bodyEv at hb ⊢
 split at hb
 ·cases hb
 ·rename_i fn hfn
  simp only [hfn]
  split at hb
  ·cases hb
  ·rename_i body hbody
   (try simp only [hbody])
   generalize hcd : (whole P G prims).code body _ h = q at hb
   cases q with
   | none => cases hb
   | some q =>
    have h1 := limit_some hcd
    obtain ⟨o, e1, hh1⟩ := q
    cases o with
    | exit id => cases hb
    | _ =>
     simp only [Option.map_eq_some_iff] at hb
     obtain ⟨q, hq, he⟩ := hb
     obtain ⟨n, h1, h2⟩ := two (fun _ _ _ hl hh => (recs_le hl).code _ _ _ _ hh) (fun _ _ _ hl hh => unwind_le (recs_le hl) hh) h1 (unwind_fin hq)
     exact ⟨n, by rw [h1]; simp only [h2, Option.map_some, he]⟩

theorem func_fin {g : FuncId} {args : List AV} {h : Heap} {r : Res × Heap} (hb : funcEv P G (whole P G prims) prims g args h = some r) : ∃ n, funcEv P G (recs P G prims n) prims g args h = some r := by
 unfold funcEv at hb ⊢
 split at hb
 ·exact ⟨0, hb⟩
 ·simp only [Option.map_eq_some_iff] at hb ⊢
  obtain ⟨q, hq, he⟩ := hb
  obtain ⟨n, hn⟩ := body_fin hq
  exact ⟨n, q, hn, he⟩

theorem opt_ext {α : Type} {a b : Option α} (h1 : ∀ r, a = some r → b = some r) (h2 : ∀ r, b = some r → a = some r) : a = b := by
 cases ha : a with
 | some r => exact (h1 r ha).symm
 | none =>
  cases hb : b with
  | none => rfl
  | some r => rw [h2 r hb] at ha; cases ha

theorem whole_code (c : Code) (e : Env) (h : Heap) : (whole P G prims).code c e h = codeEv P G (whole P G prims) c e h :=
 opt_ext (fun r hr => by
  obtain ⟨n, hn⟩ := limit_some hr
  have := (recs_step (P := P) (G := G) (prims := prims) n).code c e h r hn
  exact code_le (whole_ge n) this)
  (fun r hr => by
   obtain ⟨n, hn⟩ := code_fin hr
   exact (whole_ge (n + 1)).code c e h r hn)

theorem whole_call (g : FuncId) (a : List AV) (h : Heap) : (whole P G prims).call g a h = funcEv P G (whole P G prims) prims g a h :=
 opt_ext (fun r hr => by
  obtain ⟨n, hn⟩ := limit_some hr
  have := (recs_step (P := P) (G := G) (prims := prims) n).call g a h r hn
  exact func_le (whole_ge n) this)
  (fun r hr => by
   obtain ⟨n, hn⟩ := func_fin hr
   exact (whole_ge (n + 1)).call g a h r hn)

theorem whole_dcall (g : FuncId) (a : List AV) (m : Option (AV × Bool)) (h : Heap) : (whole P G prims).dcall g a m h = bodyEv P G (whole P G prims) g a m h :=
 opt_ext (fun r hr => by
  obtain ⟨n, hn⟩ := limit_some hr
  have := (recs_step (P := P) (G := G) (prims := prims) n).dcall g a m h r hn
  exact body_le (whole_ge n) this)
  (fun r hr => by
   obtain ⟨n, hn⟩ := body_fin hr
   exact (whole_ge (n + 1)).dcall g a m h r hn)

end
end Go.AE
end

section
namespace Go.AE

def Env.st (e : Env) (d : Nat) (x : AV) : Env := { e with tmps := e.tmps.set d x }

theorem put_some (e : Env) (d : Nat) (x : AV) : e.put (some d) x = e.st d x := rfl
theorem put_none (e : Env) (x : AV) : e.put none x = e := rfl
theorem st_get (e : Env) (d t : Nat) (x : AV) : (e.st d x).get t = if d = t then x else e.get t := look_set e.tmps d t x
theorem st_defers (e : Env) (d : Nat) (x : AV) : (e.st d x).defers = e.defers := rfl
theorem st_pan (e : Env) (d : Nat) (x : AV) : (e.st d x).pan = e.pan := rfl
theorem st_round (e : Env) (d : Nat) (x : AV) : (e.st d x).round = e.round := rfl

def Env.start (args : List AV) (p : Option (AV × Bool)) : Env := { tmps := { ch := [], base := args }, defers := [], pan := p, round := none }
theorem start_get (args : List AV) (p : Option (AV × Bool)) (t : Nat) : (Env.start args p).get t = args.getD t (.tuple []) := rfl
theorem start_defers (args : List AV) (p : Option (AV × Bool)) : (Env.start args p).defers = [] := rfl
theorem start_pan (args : List AV) (p : Option (AV × Bool)) : (Env.start args p).pan = p := rfl
theorem start_round (args : List AV) (p : Option (AV × Bool)) : (Env.start args p).round = none := rfl

theorem eval_tmp (e : Env) (t : Nat) : e.eval (.tmp t) = e.get t := rfl
theorem eval_const (e : Env) (v : Value) : e.eval (.const v) = ofVal v := rfl
theorem eval_func (e : Env) (f : FuncId) : e.eval (.func f) = .func (.func f) [] [] := rfl
theorem eval_global (e : Env) (g : Nat) : e.eval (.global g) = .ptr (.glob g) 0 := rfl
theorem ofVal_int (k : IntKind) (n : Int) : ofVal (.int k n) = .v (.int k n) := rfl
theorem ofVal_bool (b : Bool) : ofVal (.bool b) = .v (.bool b) := rfl
theorem ofVal_string (s : ByteArray) : ofVal (.string s) = .v (.string s) := rfl
theorem ofVal_nilIface : ofVal .nilIface = .v .nilIface := rfl
theorem ofVal_nilFunc : ofVal .nilFunc = .v .nilFunc := rfl
theorem ofVal_nilPtr : ofVal (.pointer none) = .v (.pointer none) := rfl
theorem ofVal_nilSlice : ofVal (.slice none 0 0) = .list .nil 0 [] := rfl
theorem ofVal_agg (cs : List Value) : ofVal (.agg ⟨cs⟩) = .agg (cs.map ofCell) := rfl

section
variable (P : Program) (G : Nat → Option (List AV)) (R : Rec)

def opsL (ops : Array Oper) : List Oper → Env → Heap → Option (Xt × Env × Heap)
 | [], e, h => some (.normal, e, h)
 | o :: rest, e, h =>
  match wantedA ops e o with
  | none => none
  | some false => opsL ops rest (e.put o.dst (.tuple [])) h
  | some true =>
   match opEv P G R e h o with
   | some (.ret x, e, h) => opsL ops rest (e.put o.dst x) h
   | some (.panic x, e, h) => some (.panic x, e, h)
   | none => none

theorem opsL_eq (ops : Array Oper) : ∀ (n i : Nat), i + n = ops.size → ∀ (e : Env) (h : Heap), opsEv P G R ops (List.range' i n) e h = opsL P G R ops (ops.toList.drop i) e h := by
 intro n
 induction n with
 | zero =>
  intro i hi e h
  rw [List.drop_eq_nil_of_le (by simp; omega)]
  rfl
 | succ n ih =>
  intro i hi e h
  have hlt : i < ops.size := by omega
  have ho : ops[i]? = some ops[i] := Array.getElem?_eq_getElem hlt
  rw [List.range'_succ, List.drop_eq_getElem_cons (by simpa using hlt)]
  simp only [opsEv, opsL, ho, Array.getElem_toList]
  cases wantedA ops e ops[i] with
  | none => rfl
  | some b =>
   cases b with
   | false => exact ih (i + 1) (by omega) _ _
   | true =>
    simp only
    cases opEv P G R e h ops[i] with
    | none => rfl
    | some q =>
     obtain ⟨r, e1, h1⟩ := q
     cases r with
     | ret x => exact ih (i + 1) (by omega) _ _
     | panic x => rfl

def Outs (r : Option (Xt × Env × Heap)) (Q : Xt → Env → Heap → Prop) : Prop := ∃ o e h, r = some (o, e, h) ∧ Q o e h

def Run (c : Code) (e : Env) (h : Heap) (Q : Xt → Env → Heap → Prop) : Prop := Outs (R.code c e h) Q
def RunL (ops : Array Oper) (l : List Oper) (e : Env) (h : Heap) (Q : Xt → Env → Heap → Prop) : Prop := Outs (opsL P G R ops l e h) Q
end

theorem outs_some {o : Xt} {e : Env} {h : Heap} {Q : Xt → Env → Heap → Prop} : Outs (some (o, e, h)) Q = Q o e h :=
 propext ⟨fun ⟨_, _, _, h1, h2⟩ => by
  simp only [Option.some.injEq, Prod.mk.injEq] at h1
  obtain ⟨rfl, rfl, rfl⟩ := h1
  exact h2, fun hq => ⟨o, e, h, rfl, hq⟩⟩

theorem outs_none {Q : Xt → Env → Heap → Prop} : Outs none Q = False := propext ⟨fun ⟨_, _, _, h1, _⟩ => (by cases h1), False.elim⟩

theorem Outs.mono {r : Option (Xt × Env × Heap)} {Q Q' : Xt → Env → Heap → Prop} (h : ∀ o e h, Q o e h → Q' o e h) (hr : Outs r Q) : Outs r Q' := by
 obtain ⟨o, e, h1, h2, h3⟩ := hr
 exact ⟨o, e, h1, h2, h _ _ _ h3⟩

def guardOf (ops : Array Oper) (j : Nat) : Option Tmp := (ops[j]?).bind (·.dst)
theorem guardOf_zero {o : Oper} {l : List Oper} : guardOf ⟨o :: l⟩ 0 = o.dst := rfl
theorem guardOf_succ {o : Oper} {l : List Oper} {n : Nat} : guardOf ⟨o :: l⟩ (n + 1) = guardOf ⟨l⟩ n := by simp [guardOf]

def CondR (R : Rec) (a b : Code) (e : Env) (h : Heap) (Q : Xt → Env → Heap → Prop) (x : AV) : Prop :=
 match x with
 | .v (.bool t) => if t = true then Run R a e h Q else Run R b e h Q
 | _ => False

def GuardR (P : Program) (G : Nat → Option (List AV)) (R : Rec) (ops : Array Oper) (o : Oper) (rest : List Oper) (e : Env) (h : Heap) (Q : Xt → Env → Heap → Prop) (want : Bool) (x : AV) : Prop :=
 match x with
 | .v (.bool b) => if b = want then RunL P G R ops (o :: rest) e h Q else RunL P G R ops rest (e.put o.dst (.tuple [])) h Q
 | .tuple [] => RunL P G R ops rest (e.put o.dst (.tuple [])) h Q
 | _ => False

def SlotR (P : Program) (G : Nat → Option (List AV)) (R : Rec) (ops : Array Oper) (o : Oper) (rest : List Oper) (e : Env) (h : Heap) (Q : Xt → Env → Heap → Prop) (want : Bool) (d : Option Tmp) : Prop :=
 match d with
 | some g => GuardR P G R ops o rest e h Q want (e.get g)
 | none => RunL P G R ops rest (e.put o.dst (.tuple [])) h Q

section
variable {P : Program} {G : Nat → Option (List AV)} {R : Rec} {a b : Code} {e : Env} {h : Heap} {Q : Xt → Env → Heap → Prop} {ops : Array Oper} {o : Oper} {rest : List Oper} {p : Prop} [Decidable p] {t : Bool}
theorem branch_true : CondR R a b e h Q (.v (.bool true)) = Run R a e h Q := rfl
theorem branch_false : CondR R a b e h Q (.v (.bool false)) = Run R b e h Q := rfl
theorem branch_dec (h1 : p → Run R a e h Q) (h2 : ¬ p → Run R b e h Q) : CondR R a b e h Q (.v (.bool (decide p))) := by
 unfold CondR
 simp only [decide_eq_true_eq]
 split
 ·rename_i hp; exact h1 hp
 ·rename_i hp; exact h2 hp
theorem branch_ndec (h1 : p → Run R b e h Q) (h2 : ¬ p → Run R a e h Q) : CondR R a b e h Q (.v (.bool (!decide p))) := by
 unfold CondR
 by_cases hp : p
 ·simp only [hp, decide_true, Bool.not_true, Bool.false_eq_true, if_false]; exact h1 hp
 ·simp only [hp, decide_false, Bool.not_false, if_true]; exact h2 hp
theorem branch_bool (h1 : t = true → Run R a e h Q) (h2 : t = false → Run R b e h Q) : CondR R a b e h Q (.v (.bool t)) := by
 cases t
 ·exact h2 rfl
 ·exact h1 rfl
theorem guard_tt : GuardR P G R ops o rest e h Q true (.v (.bool true)) = RunL P G R ops (o :: rest) e h Q := rfl
theorem guard_tf : GuardR P G R ops o rest e h Q true (.v (.bool false)) = RunL P G R ops rest (e.put o.dst (.tuple [])) h Q := rfl
theorem guard_ft : GuardR P G R ops o rest e h Q false (.v (.bool true)) = RunL P G R ops rest (e.put o.dst (.tuple [])) h Q := rfl
theorem guard_ff : GuardR P G R ops o rest e h Q false (.v (.bool false)) = RunL P G R ops (o :: rest) e h Q := rfl
theorem guard_un {w : Bool} : GuardR P G R ops o rest e h Q w (.tuple []) = RunL P G R ops rest (e.put o.dst (.tuple [])) h Q := rfl
theorem guard_dec {w : Bool} (h1 : p → GuardR P G R ops o rest e h Q w (.v (.bool true))) (h2 : ¬ p → GuardR P G R ops o rest e h Q w (.v (.bool false))) : GuardR P G R ops o rest e h Q w (.v (.bool (decide p))) := by
 by_cases hp : p
 ·simp only [hp, decide_true]; exact h1 hp
 ·simp only [hp, decide_false]; exact h2 hp
theorem guard_ndec {w : Bool} (h1 : p → GuardR P G R ops o rest e h Q w (.v (.bool false))) (h2 : ¬ p → GuardR P G R ops o rest e h Q w (.v (.bool true))) : GuardR P G R ops o rest e h Q w (.v (.bool (!decide p))) := by
 by_cases hp : p
 ·simp only [hp, decide_true]; exact h1 hp
 ·simp only [hp, decide_false]; exact h2 hp
theorem guard_bool {w : Bool} (h1 : t = true → GuardR P G R ops o rest e h Q w (.v (.bool true))) (h2 : t = false → GuardR P G R ops o rest e h Q w (.v (.bool false))) : GuardR P G R ops o rest e h Q w (.v (.bool t)) := by
 cases t
 ·exact h2 rfl
 ·exact h1 rfl
theorem guard_nbool {w : Bool} (h1 : t = true → GuardR P G R ops o rest e h Q w (.v (.bool false))) (h2 : t = false → GuardR P G R ops o rest e h Q w (.v (.bool true))) : GuardR P G R ops o rest e h Q w (.v (.bool (!t))) := by
 cases t
 ·exact h2 rfl
 ·exact h1 rfl
theorem branch_nbool (h1 : t = true → Run R b e h Q) (h2 : t = false → Run R a e h Q) : CondR R a b e h Q (.v (.bool (!t))) := by
 cases t
 ·exact h2 rfl
 ·exact h1 rfl
theorem slot_some {w : Bool} {g : Tmp} : SlotR P G R ops o rest e h Q w (some g) = GuardR P G R ops o rest e h Q w (e.get g) := rfl
end

def seqQ (R : Rec) (c : Code) (Q : Xt → Env → Heap → Prop) : Xt → Env → Heap → Prop
 | .normal, e, h => Run R c e h Q
 | o, e, h => Q o e h

def blockQ (id : Nat) (Q : Xt → Env → Heap → Prop) : Xt → Env → Heap → Prop
 | .exit i, e, h => if i = id then Q .normal e h else Q (.exit i) e h
 | o, e, h => Q o e h

def calmQ (Q : Xt → Env → Heap → Prop) : Xt → Env → Heap → Prop
 | .normal, e, h => Q .normal e h
 | _, _, _ => False

section
variable {R : Rec} {c : Code} {Q : Xt → Env → Heap → Prop} {e : Env} {h : Heap}
theorem seqQ_normal : seqQ R c Q .normal e h = Run R c e h Q := rfl
theorem seqQ_ret : seqQ R c Q .ret e h = Q .ret e h := rfl
theorem seqQ_exit {i : Nat} : seqQ R c Q (.exit i) e h = Q (.exit i) e h := rfl
theorem seqQ_panic {x : AV} : seqQ R c Q (.panic x) e h = Q (.panic x) e h := rfl
theorem blockQ_normal {id : Nat} : blockQ id Q .normal e h = Q .normal e h := rfl
theorem blockQ_ret {id : Nat} : blockQ id Q .ret e h = Q .ret e h := rfl
theorem blockQ_exit {id i : Nat} : blockQ id Q (.exit i) e h = if i = id then Q .normal e h else Q (.exit i) e h := rfl
theorem blockQ_panic {id : Nat} {x : AV} : blockQ id Q (.panic x) e h = Q (.panic x) e h := rfl
theorem calmQ_normal : calmQ Q .normal e h = Q .normal e h := rfl
theorem calmQ_panic {x : AV} : calmQ Q (.panic x) e h = False := rfl
end

section
variable {P : Program} {G : Nat → Option (List AV)} {prims : FuncId → Option (List AV → Heap → Option (AV × Heap))} {Q : Xt → Env → Heap → Prop} {e : Env} {h : Heap}

theorem run_skip : Run (whole P G prims) .skip e h Q = Q .normal e h := by rw [Run, whole_code]; exact outs_some
theorem run_label {l : Nat} : Run (whole P G prims) (.label l) e h Q = Q .normal e h := by rw [Run, whole_code]; exact outs_some
theorem run_exit {id : Nat} : Run (whole P G prims) (.exit id) e h Q = Q (.exit id) e h := by rw [Run, whole_code]; exact outs_some
theorem run_ret : Run (whole P G prims) .ret e h Q = Q .ret e h := by rw [Run, whole_code]; exact outs_some
theorem run_seq {a b : Code} : Run (whole P G prims) (.seq a b) e h Q = Run (whole P G prims) a e h (seqQ (whole P G prims) b Q) := by
 unfold Run
 rw [whole_code]
 simp only [codeEv]
 cases ha : (whole P G prims).code a e h with
 | none => simp only [outs_none]
 | some q =>
  obtain ⟨o, e1, h1⟩ := q
  cases o <;> simp only [outs_some] <;> rfl
theorem run_cond {c : Operand} {a b : Code} : Run (whole P G prims) (.cond c a b) e h Q = CondR (whole P G prims) a b e h Q (e.eval c) := by
 unfold Run CondR
 rw [whole_code]
 simp only [codeEv]
 generalize e.eval c = x
 rcases x with _ | v | _ | _ | _ | _ | _ | _ | _ | _ | _
 case v =>
  cases v with
  | bool t => cases t <;> rfl
  | _ => simp only [outs_none]
 all_goals (simp only [outs_none])
theorem run_block {id : Nat} {a : Code} : Run (whole P G prims) (.block id a) e h Q = Run (whole P G prims) a e h (blockQ id Q) := by
 unfold Run
 rw [whole_code]
 simp only [codeEv]
 cases ha : (whole P G prims).code a e h with
 | none => simp only [outs_none]
 | some q =>
  obtain ⟨o, e1, h1⟩ := q
  cases o with
  | exit i =>
   simp only [outs_some, blockQ_exit]
   split <;> simp only [outs_some]
  | _ => simp only [outs_some] <;> rfl
theorem run_region {id : Nat} {ops : Array Oper} : Run (whole P G prims) (.region id ops false) e h Q = RunL P G (whole P G prims) ops ops.toList e h Q := by
 unfold Run RunL
 rw [whole_code]
 simp only [codeEv, Bool.false_eq_true, if_false]
 have := opsL_eq P G (whole P G prims) ops ops.size 0 (by omega) e h
 rw [List.drop_zero] at this
 rw [← this, List.range_eq_range']

theorem fits_of_ok {R : Rec} {ops : Array Oper} (hd : drawOk ops = true) (e : Env) (h : Heap) : drawFits P G R ops e h = true := by
 unfold drawOk at hd
 unfold drawFits
 simp only [Bool.and_eq_true, List.all_eq_true, List.mem_range, Bool.or_eq_true] at hd ⊢
 exact ⟨hd.1, fun j hj i hi => .inl (.inl (hd.2 j hj i hi))⟩

theorem run_draw_of {id : Nat} {ops : Array Oper} (hd : drawFits P G (whole P G prims) ops e h = true) (hr : RunL P G (whole P G prims) ops ops.toList e h (calmQ Q)) : Run (whole P G prims) (.region id ops true) e h Q := by
 unfold Run RunL at *
 rw [whole_code]
 simp only [codeEv, if_true, hd]
 have := opsL_eq P G (whole P G prims) ops ops.size 0 (by omega) e h
 rw [List.drop_zero] at this
 rw [← this, ← List.range_eq_range'] at hr
 obtain ⟨o, e1, h1, h2, h3⟩ := hr
 rw [h2]
 cases o with
 | normal => exact ⟨_, _, _, rfl, h3⟩
 | _ => exact h3.elim

theorem run_draw {id : Nat} {ops : Array Oper} (hd : drawOk ops = true) (hr : RunL P G (whole P G prims) ops ops.toList e h (calmQ Q)) : Run (whole P G prims) (.region id ops true) e h Q :=
 run_draw_of (fits_of_ok hd e h) hr

def loopQ (I : Nat → Env → Heap → Prop) (n : Nat) (Q : Xt → Env → Heap → Prop) : Xt → Env → Heap → Prop
 | .normal, e, h => ∃ m, m < n ∧ I m e h
 | o, e, h => Q o e h
theorem loopQ_normal {I : Nat → Env → Heap → Prop} {n : Nat} : loopQ I n Q .normal e h = ∃ m, m < n ∧ I m e h := rfl
theorem loopQ_ret {I : Nat → Env → Heap → Prop} {n : Nat} : loopQ I n Q .ret e h = Q .ret e h := rfl
theorem loopQ_exit {I : Nat → Env → Heap → Prop} {n i : Nat} : loopQ I n Q (.exit i) e h = Q (.exit i) e h := rfl
theorem loopQ_panic {I : Nat → Env → Heap → Prop} {n : Nat} {x : AV} : loopQ I n Q (.panic x) e h = Q (.panic x) e h := rfl

theorem run_loop {c : Code} (I : Nat → Env → Heap → Prop) (hstep : ∀ n e h, I n e h → Run (whole P G prims) c e h (loopQ I n Q)) :
 ∀ n e h, I n e h → Run (whole P G prims) (.loop c) e h Q := by
 intro n
 induction n using Nat.strongRecOn with
 | _ n ih =>
  intro e h hi
  obtain ⟨o, e1, h1, h2, h3⟩ := hstep n e h hi
  unfold Run
  rw [whole_code]
  simp only [codeEv, h2]
  cases o with
  | normal =>
   obtain ⟨m, hm, hi'⟩ := h3
   exact ih m hm e1 h1 hi'
  | _ => exact ⟨_, _, _, rfl, h3⟩

theorem Run.mono {R : Rec} {c : Code} {Q1 : Xt → Env → Heap → Prop} {h1 : Heap} (hq : ∀ o e h, Q o e h → Q1 o e h) (hr : Run R c e h1 Q) : Run R c e h1 Q1 := Outs.mono hq hr

def endQ (P : Program) (G : Nat → Option (List AV)) (R : Rec) (fn : Func) (r : Res) (h' : Heap) : Xt → Env → Heap → Prop
 | .normal, e, h => unwindEv P G R fn e e.defers none h = some (r, h')
 | .ret, e, h => unwindEv P G R fn e e.defers none h = some (r, h')
 | .panic x, e, h => unwindEv P G R fn e e.defers (some (x, false)) h = some (r, h')
 | .exit _, _, _ => False

theorem call_of_run {g : FuncId} {fn : Func} {body : Code} {args : List AV} {r : Res} {h' : Heap} (hp : prims g = none) (hfn : P.funcs[g]? = some fn) (hb : fn.body = some body)
 (hr : Run (whole P G prims) body (Env.start args none) h (endQ P G (whole P G prims) fn r h')) : (whole P G prims).call g args h = some (r, h') := by
 rw [whole_call]
 unfold funcEv
 rw [hp]
 unfold bodyEv
 rw [hfn]
 simp only [hb]
 obtain ⟨o, e1, h1, h2, h3⟩ := hr
 have h2 : (whole P G prims).code body { tmps := { ch := [], base := args }, defers := [], pan := none, round := none } h = some (o, e1, h1) := h2
 rw [h2]
 cases o with
 | exit i => exact h3.elim
 | _ => simp only [endQ] at h3; simp only [h3, Option.map_some]

theorem dcall_of_run {g : FuncId} {fn : Func} {body : Code} {args : List AV} {m m' : Option (AV × Bool)} {r : Res} {h' : Heap} (hfn : P.funcs[g]? = some fn) (hb : fn.body = some body)
 (hr : Run (whole P G prims) body (Env.start args m) h fun o e h1 => endQ P G (whole P G prims) fn r h' o e h1 ∧ e.pan = m') : (whole P G prims).dcall g args m h = some (r, m', h') := by
 rw [whole_dcall]
 unfold bodyEv
 rw [hfn]
 simp only [hb]
 obtain ⟨o, e1, h1, h2, h3, h4⟩ := hr
 have h2 : (whole P G prims).code body { tmps := { ch := [], base := args }, defers := [], pan := m, round := none } h = some (o, e1, h1) := h2
 rw [h2]
 cases o with
 | exit i => exact h3.elim
 | _ => simp only [endQ] at h3; simp only [h3, Option.map_some, h4]

theorem endQ_normal {R : Rec} {fn : Func} {r : Res} {h' : Heap} : endQ P G R fn r h' .normal e h = (unwindEv P G R fn e e.defers none h = some (r, h')) := rfl
theorem endQ_ret {R : Rec} {fn : Func} {r : Res} {h' : Heap} : endQ P G R fn r h' .ret e h = (unwindEv P G R fn e e.defers none h = some (r, h')) := rfl
theorem endQ_panic {R : Rec} {fn : Func} {r : Res} {h' : Heap} {x : AV} : endQ P G R fn r h' (.panic x) e h = (unwindEv P G R fn e e.defers (some (x, false)) h = some (r, h')) := rfl
theorem unwind_nil {R : Rec} {fn : Func} : unwindEv P G R fn e [] none h = (resultsEv P G fn e h).map fun x => (.ret x, h) := rfl
theorem unwind_panic {R : Rec} {fn : Func} {x : AV} {b : Bool} : unwindEv P G R fn e [] (some (x, b)) h = some (.panic x, h) := rfl

section
variable {R : Rec} {ops : Array Oper} {rest : List Oper} {d : Option Tmp} {ty : TypeId} {pos : String} {af : Array Edge}

theorem runL_nil : RunL P G R ops [] e h Q = Q .normal e h := outs_some

theorem runL_guard {op : Op} {j : Nat} {want : Bool} : RunL P G R ops (⟨d, op, ty, pos, af, some (j, want)⟩ :: rest) e h Q =
 SlotR P G R ops ⟨d, op, ty, pos, af, none⟩ rest e h Q want (guardOf ops j) := by
 unfold RunL guardOf SlotR GuardR RunL
 simp only [opsL, wantedA]
 cases (ops[j]?).bind (·.dst) with
 | none => rfl
 | some g =>
  simp only
  generalize e.get g = x
  rcases x with _ | v | _ | _ | _ | cs | _ | _ | _ | _ | _
  case v =>
   cases v with
   | bool b =>
    simp only
    by_cases hb : b = want
    ·subst hb; simp only [beq_self_eq_true, if_true]; rfl
    ·have : (b == want) = false := by simpa using hb
     simp only [this, if_neg hb]
   | _ => simp only [outs_none]
  case tuple => cases cs <;> simp only [outs_none]
  all_goals (simp only [outs_none])

def after (P : Program) (G : Nat → Option (List AV)) (R : Rec) (ops : Array Oper) (rest : List Oper) (d : Option Tmp) (e : Env) (Q : Xt → Env → Heap → Prop) : Option (AV × Heap) → Prop
 | some (x, h) => RunL P G R ops rest (e.put d x) h Q
 | none => False

theorem after_some {x : AV} : after P G R ops rest d e Q (some (x, h)) = RunL P G R ops rest (e.put d x) h Q := rfl
def opsOf (o : Op) : Bool :=
 match o with
 | .call _ | .defer _ | .panic _ => false
 | _ => true

theorem runL_plain {op : Op} (ho : opsOf op = true) : RunL P G R ops (⟨d, op, ty, pos, af, none⟩ :: rest) e h Q = after P G R ops rest d e Q (plainEv P G e.eval h op) := by
 unfold RunL
 simp only [opsL, wantedA]
 have hop : opEv P G R e h ⟨d, op, ty, pos, af, none⟩ = (plainEv P G e.eval h op).map fun (x, h) => (.ret x, e, h) := by
  cases op <;> first | rfl | (simp [opsOf] at ho)
 rw [hop]
 cases plainEv P G e.eval h op with
 | none => simp only [Option.map_none, outs_none]; rfl
 | some q => obtain ⟨x, h1⟩ := q; rfl

def afterC (P : Program) (G : Nat → Option (List AV)) (R : Rec) (ops : Array Oper) (rest : List Oper) (d : Option Tmp) (e : Env) (Q : Xt → Env → Heap → Prop) : Option (Res × Heap) → Prop
 | some (.ret x, h) => RunL P G R ops rest (e.put d x) h Q
 | some (.panic x, h) => Q (.panic x) e h
 | none => False

theorem afterC_ret {x : AV} : afterC P G R ops rest d e Q (some (.ret x, h)) = RunL P G R ops rest (e.put d x) h Q := rfl
theorem afterC_panic {x : AV} : afterC P G R ops rest d e Q (some (.panic x, h)) = Q (.panic x) e h := rfl

theorem runL_value {f : Operand} {args : Array Operand} {ts : Array TypeId} : RunL P G R ops (⟨d, .call { callee := .value f, args, argTypes := ts }, ty, pos, af, none⟩ :: rest) e h Q =
 afterC P G R ops rest d e Q (callEv P R e h { callee := .value f, args, argTypes := ts }) := by
 unfold RunL
 simp only [opsL, wantedA, opEv]
 cases callEv P R e h { callee := .value f, args, argTypes := ts } with
 | none => simp only [Option.map_none, outs_none]; rfl
 | some q => obtain ⟨r, h1⟩ := q; cases r <;> simp only [Option.map_some, outs_some] <;> rfl

theorem call_func {g : FuncId} {args : Array Operand} {ts : Array TypeId} : callEv P R e h { callee := .value (.func g), args, argTypes := ts } = R.call g (args.toList.map e.eval) h := by
 simp [callEv, eval_func]

theorem call_tmp {t : Nat} {args : Array Operand} {ts : Array TypeId} : callEv P R e h { callee := .value (.tmp t), args, argTypes := ts } =
 (match e.get t with
  | .func (.func g) first cap => R.call g (first ++ args.toList.map e.eval ++ cap) h
  | .yield l => R.round l (args.toList.map e.eval) h
  | _ => none) := rfl

def plainB : Builtin → Bool
 | .recover | .panic | .append => false
 | _ => true

theorem runL_builtin {b : Builtin} {args : Array Operand} {ts : Array TypeId} (hb : plainB b = true) : RunL P G R ops (⟨d, .call { callee := .builtin b, args, argTypes := ts }, ty, pos, af, none⟩ :: rest) e h Q =
 after P G R ops rest d e Q (builtinEv P h b ts ty (args.toList.map e.eval)) := by
 unfold RunL
 simp only [opsL, wantedA]
 have hop : opEv P G R e h ⟨d, .call { callee := .builtin b, args, argTypes := ts }, ty, pos, af, none⟩ = (builtinEv P h b ts ty (args.toList.map e.eval)).map fun (x, h) => (.ret x, e, h) := by
  cases b <;> first | rfl | (simp [plainB] at hb)
 rw [hop]
 cases builtinEv P h b ts ty (args.toList.map e.eval) with
 | none => simp only [Option.map_none, outs_none]; rfl
 | some q => obtain ⟨x, h1⟩ := q; rfl

theorem rl_move (x : Operand) : RunL P G R ops (⟨d, .move x, ty, pos, af, none⟩ :: rest) e h Q = after P G R ops rest d e Q (plainEv P G e.eval h (.move x)) := runL_plain rfl
theorem rl_assign (x : Operand) : RunL P G R ops (⟨d, .assign x, ty, pos, af, none⟩ :: rest) e h Q = after P G R ops rest d e Q (plainEv P G e.eval h (.assign x)) := runL_plain rfl
theorem rl_pick (c a b : Operand) : RunL P G R ops (⟨d, .pick c a b, ty, pos, af, none⟩ :: rest) e h Q = after P G R ops rest d e Q (plainEv P G e.eval h (.pick c a b)) := runL_plain rfl
theorem rl_alloc (t : TypeId) : RunL P G R ops (⟨d, .alloc t, ty, pos, af, none⟩ :: rest) e h Q = after P G R ops rest d e Q (plainEv P G e.eval h (.alloc t)) := runL_plain rfl
theorem rl_box (t : TypeId) (x : Operand) : RunL P G R ops (⟨d, .box t x, ty, pos, af, none⟩ :: rest) e h Q = after P G R ops rest d e Q (plainEv P G e.eval h (.box t x)) := runL_plain rfl
theorem rl_build (t : TypeId) (ps : Array (Nat × Operand)) : RunL P G R ops (⟨d, .build t ps, ty, pos, af, none⟩ :: rest) e h Q = after P G R ops rest d e Q (plainEv P G e.eval h (.build t ps)) := runL_plain rfl
theorem rl_buildSlice (t : TypeId) (n : Nat) (ps : Array (Nat × Operand)) : RunL P G R ops (⟨d, .buildSlice t n ps, ty, pos, af, none⟩ :: rest) e h Q = after P G R ops rest d e Q (plainEv P G e.eval h (.buildSlice t n ps)) := runL_plain rfl
theorem rl_load (t : TypeId) (a : Operand) : RunL P G R ops (⟨d, .load t a, ty, pos, af, none⟩ :: rest) e h Q = after P G R ops rest d e Q (plainEv P G e.eval h (.load t a)) := runL_plain rfl
theorem rl_store (t : TypeId) (a x : Operand) : RunL P G R ops (⟨d, .store t a x, ty, pos, af, none⟩ :: rest) e h Q = after P G R ops rest d e Q (plainEv P G e.eval h (.store t a x)) := runL_plain rfl
theorem rl_nilCheck (x : Operand) : RunL P G R ops (⟨d, .nilCheck x, ty, pos, af, none⟩ :: rest) e h Q = after P G R ops rest d e Q (plainEv P G e.eval h (.nilCheck x)) := runL_plain rfl
theorem rl_binOp (o : BinOp) (t : TypeId) (x y : Operand) (yt : TypeId) : RunL P G R ops (⟨d, .binOp o t x y yt, ty, pos, af, none⟩ :: rest) e h Q = after P G R ops rest d e Q (plainEv P G e.eval h (.binOp o t x y yt)) := runL_plain rfl
theorem rl_unOp (o : UnOp) (t : TypeId) (x : Operand) : RunL P G R ops (⟨d, .unOp o t x, ty, pos, af, none⟩ :: rest) e h Q = after P G R ops rest d e Q (plainEv P G e.eval h (.unOp o t x)) := runL_plain rfl
theorem rl_convert (s t : TypeId) (x : Operand) : RunL P G R ops (⟨d, .convert s t x, ty, pos, af, none⟩ :: rest) e h Q = after P G R ops rest d e Q (plainEv P G e.eval h (.convert s t x)) := runL_plain rfl
theorem rl_makeInterface (t : TypeId) (x : Operand) : RunL P G R ops (⟨d, .makeInterface t x, ty, pos, af, none⟩ :: rest) e h Q = after P G R ops rest d e Q (plainEv P G e.eval h (.makeInterface t x)) := runL_plain rfl
theorem rl_makeFunc (fn : Fn) (first cap : Array Operand) : RunL P G R ops (⟨d, .makeFunc fn first cap, ty, pos, af, none⟩ :: rest) e h Q = after P G R ops rest d e Q (plainEv P G e.eval h (.makeFunc fn first cap)) := runL_plain rfl
theorem rl_makeSlice (t : TypeId) (l c : Operand) : RunL P G R ops (⟨d, .makeSlice t l c, ty, pos, af, none⟩ :: rest) e h Q = after P G R ops rest d e Q (plainEv P G e.eval h (.makeSlice t l c)) := runL_plain rfl
theorem rl_slice (t : TypeId) (x : Operand) (lo hi mx : Option Operand) : RunL P G R ops (⟨d, .slice t x lo hi mx, ty, pos, af, none⟩ :: rest) e h Q = after P G R ops rest d e Q (plainEv P G e.eval h (.slice t x lo hi mx)) := runL_plain rfl
theorem rl_fieldAddr (t : TypeId) (x : Operand) (f : Nat) : RunL P G R ops (⟨d, .fieldAddr t x f, ty, pos, af, none⟩ :: rest) e h Q = after P G R ops rest d e Q (plainEv P G e.eval h (.fieldAddr t x f)) := runL_plain rfl
theorem rl_field (t : TypeId) (x : Operand) (f : Nat) : RunL P G R ops (⟨d, .field t x f, ty, pos, af, none⟩ :: rest) e h Q = after P G R ops rest d e Q (plainEv P G e.eval h (.field t x f)) := runL_plain rfl
theorem rl_indexAddr (t : TypeId) (x i : Operand) : RunL P G R ops (⟨d, .indexAddr t x i, ty, pos, af, none⟩ :: rest) e h Q = after P G R ops rest d e Q (plainEv P G e.eval h (.indexAddr t x i)) := runL_plain rfl
theorem rl_index (t : TypeId) (x i : Operand) : RunL P G R ops (⟨d, .index t x i, ty, pos, af, none⟩ :: rest) e h Q = after P G R ops rest d e Q (plainEv P G e.eval h (.index t x i)) := runL_plain rfl
theorem rl_typeAssert (x : Operand) (xt t : TypeId) (ok : Bool) : RunL P G R ops (⟨d, .typeAssert x xt t ok, ty, pos, af, none⟩ :: rest) e h Q = after P G R ops rest d e Q (plainEv P G e.eval h (.typeAssert x xt t ok)) := runL_plain rfl
theorem rl_extract (x : Operand) (i : Nat) : RunL P G R ops (⟨d, .extract x i, ty, pos, af, none⟩ :: rest) e h Q = after P G R ops rest d e Q (plainEv P G e.eval h (.extract x i)) := runL_plain rfl
theorem rl_len (args : Array Operand) (ts : Array TypeId) : RunL P G R ops (⟨d, .call { callee := .builtin .len, args, argTypes := ts }, ty, pos, af, none⟩ :: rest) e h Q = after P G R ops rest d e Q (builtinEv P h .len ts ty (args.toList.map e.eval)) := runL_builtin rfl
theorem rl_cap (args : Array Operand) (ts : Array TypeId) : RunL P G R ops (⟨d, .call { callee := .builtin .cap, args, argTypes := ts }, ty, pos, af, none⟩ :: rest) e h Q = after P G R ops rest d e Q (builtinEv P h .cap ts ty (args.toList.map e.eval)) := runL_builtin rfl
theorem rl_append (args : Array Operand) (ts : Array TypeId) : RunL P G R ops (⟨d, .call { callee := .builtin .append, args, argTypes := ts }, ty, pos, af, none⟩ :: rest) e h Q = after P G R ops rest d e Q (builtinT P G d h .append ts ty (args.toList.map e.eval)) := by
 unfold RunL
 simp only [opsL, wantedA]
 have hop : opEv P G R e h ⟨d, .call { callee := .builtin .append, args, argTypes := ts }, ty, pos, af, none⟩ = (builtinT P G d h .append ts ty (args.toList.map e.eval)).map fun (x, h) => (.ret x, e, h) := rfl
 rw [hop]
 cases builtinT P G d h .append ts ty (args.toList.map e.eval) with
 | none => simp only [Option.map_none, outs_none]; rfl
 | some q => obtain ⟨x, h1⟩ := q; rfl
theorem rl_copy (args : Array Operand) (ts : Array TypeId) : RunL P G R ops (⟨d, .call { callee := .builtin .copy, args, argTypes := ts }, ty, pos, af, none⟩ :: rest) e h Q = after P G R ops rest d e Q (builtinEv P h .copy ts ty (args.toList.map e.eval)) := runL_builtin rfl
theorem rl_min (args : Array Operand) (ts : Array TypeId) : RunL P G R ops (⟨d, .call { callee := .builtin .min, args, argTypes := ts }, ty, pos, af, none⟩ :: rest) e h Q = after P G R ops rest d e Q (builtinEv P h .min ts ty (args.toList.map e.eval)) := runL_builtin rfl
theorem rl_max (args : Array Operand) (ts : Array TypeId) : RunL P G R ops (⟨d, .call { callee := .builtin .max, args, argTypes := ts }, ty, pos, af, none⟩ :: rest) e h Q = after P G R ops rest d e Q (builtinEv P h .max ts ty (args.toList.map e.eval)) := runL_builtin rfl

theorem runL_panic {x : Operand} : RunL P G R ops (⟨d, .panic x, ty, pos, af, none⟩ :: rest) e h Q = (match e.eval x with | .iface t y => Q (.panic (.iface t y)) e h | _ => False) := by
 unfold RunL
 simp only [opsL, wantedA, opEv]
 generalize e.eval x = y
 cases y <;> first | exact outs_some | exact outs_none

theorem runL_recover {args : Array Operand} {ts : Array TypeId} (hr : e.round = none) : RunL P G R ops (⟨d, .call { callee := .builtin .recover, args, argTypes := ts }, ty, pos, af, none⟩ :: rest) e h Q =
 (match e.pan with
  | some (x, false) => RunL P G R ops rest (({ e with pan := some (x, true) } : Env).put d x) h Q
  | _ => RunL P G R ops rest (e.put d (.v .nilIface)) h Q) := by
 unfold RunL
 simp only [opsL, wantedA, opEv, hr, Option.isSome_none, Bool.false_eq_true, if_false]
 rcases hp : e.pan with _ | ⟨x, b⟩
 ·rfl
 ·cases b <;> rfl

theorem runL_defer {f : Operand} {args : Array Operand} {ts : Array TypeId} (hr : e.round = none) : RunL P G R ops (⟨d, .defer { callee := .value f, args, argTypes := ts }, ty, pos, af, none⟩ :: rest) e h Q =
 (match e.eval f with
  | .func (.func g) first cap => RunL P G R ops rest (({ e with defers := (g, first ++ args.toList.map e.eval ++ cap) :: e.defers } : Env).put d (.tuple [])) h Q
  | _ => False) := by
 unfold RunL
 simp only [opsL, wantedA, opEv, hr, Option.isSome_none, Bool.false_eq_true, if_false]
 generalize e.eval f = y
 rcases y with _ | _ | _ | _ | _ | _ | _ | _ | ⟨fn, a, b⟩ | _ | _
 case func => cases fn <;> first | rfl | exact outs_none
 all_goals exact outs_none
end

end
end Go.AE
end

section
namespace Go.AE

def bs (l : List UInt8) : ByteArray := ⟨l.toArray⟩
def str (l : List UInt8) : AV := .v (.string (bs l))
def int (n : Int) : AV := .v (.int .i64 n)
def byte (b : UInt8) : AV := .v (.int .u8 b.toNat)
def bool (b : Bool) : AV := .v (.bool b)

theorem bs_mk (l : List UInt8) : ByteArray.mk l.toArray = bs l := rfl
theorem bs_size (l : List UInt8) : (bs l).size = l.length := rfl
theorem bs_data (l : List UInt8) : (bs l).data.toList = l := rfl
theorem bs_of (s : ByteArray) : s = bs s.data.toList := by obtain ⟨⟨l⟩⟩ := s; rfl
theorem bs_append (a b : List UInt8) : bs a ++ bs b = bs (a ++ b) := by
 apply ByteArray.ext
 rw [ByteArray.data_append]
 simp [bs]
theorem bs_extract (l : List UInt8) (i j : Nat) : (bs l).extract i j = bs ((l.take j).drop i) := by
 apply ByteArray.ext
 rw [ByteArray.data_extract]
 simp [bs, List.extract_eq_take_drop, List.drop_take]
theorem pureRun_bind {α β : Type} {P : Program} (m : Sem α) (f : α → Sem β) : pureRun P (m >>= f) = (pureRun P m).bind fun a => pureRun P (f a) := by
 show pureRun P (m.bind f) = _
 induction m with
 | pure a => rfl
 | program k ih => simp only [Sem.bind, pureRun]; exact ih _
 | mark m k ih => simp only [Sem.bind, pureRun]; exact ih
 | _ => rfl

section
variable {P : Program} {t : TypeId} {x y : Operand} {k : IntKind} {a b : Int}

theorem binFlat_int {op : BinOp} {v : Value} (h : pureRun P (binOp op t (.int k a) (.int k b)) = some v) : binEv P op t x y (.v (.int k a)) (.v (.int k b)) = scalarV v := by
 have hg : pureRun P (eqGuard op t x y (.int k a) (.int k b)) = some () := by cases op <;> rfl
 show (pureRun P (do eqGuard op t x y (.int k a) (.int k b); binOp op t (.int k a) (.int k b))).bind scalarV = _
 rw [pureRun_bind, hg]
 simp only [Option.bind_some, h]

theorem bin_add : binEv P .add t x y (.v (.int k a)) (.v (.int k b)) = some (.v (.int k (k.wrap (a + b)))) := binFlat_int (v := .int k (k.wrap (a + b))) (by simp [binOp, Op.intArith]; rfl)
theorem bin_sub : binEv P .sub t x y (.v (.int k a)) (.v (.int k b)) = some (.v (.int k (k.wrap (a - b)))) := binFlat_int (v := .int k (k.wrap (a - b))) (by simp [binOp, Op.intArith]; rfl)
theorem bin_mul : binEv P .mul t x y (.v (.int k a)) (.v (.int k b)) = some (.v (.int k (k.wrap (a * b)))) := binFlat_int (v := .int k (k.wrap (a * b))) (by simp [binOp, Op.intArith]; rfl)
theorem bin_quo (h : b ≠ 0) : binEv P .quo t x y (.v (.int k a)) (.v (.int k b)) = some (.v (.int k (k.wrap (a.tdiv b)))) := binFlat_int (v := .int k (k.wrap (a.tdiv b))) (by simp [binOp, Op.intDiv, h]; rfl)
theorem bin_rem (h : b ≠ 0) : binEv P .rem t x y (.v (.int k a)) (.v (.int k b)) = some (.v (.int k (a.tmod b))) := binFlat_int (v := .int k (a.tmod b)) (by simp [binOp, Op.intDiv, h]; rfl)
theorem bin_eql : binEv P .eql t x y (.v (.int k a)) (.v (.int k b)) = some (.v (.bool (decide (a = b)))) := binFlat_int (v := .bool (decide (a = b))) (by
 have : (a == b) = decide (a = b) := by rw [Bool.eq_iff_iff]; simp
 simp [binOp, Op.intCmp, this]; rfl)
theorem bin_neq : binEv P .neq t x y (.v (.int k a)) (.v (.int k b)) = some (.v (.bool (!decide (a = b)))) := binFlat_int (v := .bool (!decide (a = b))) (by
 have : (a != b) = !decide (a = b) := by rw [Bool.eq_iff_iff]; simp
 simp [binOp, Op.intCmp, this]; rfl)
theorem bin_lss : binEv P .lss t x y (.v (.int k a)) (.v (.int k b)) = some (.v (.bool (decide (a < b)))) := binFlat_int (v := .bool (decide (a < b))) (by simp [binOp, Op.intCmp]; rfl)
theorem bin_leq : binEv P .leq t x y (.v (.int k a)) (.v (.int k b)) = some (.v (.bool (decide (a ≤ b)))) := binFlat_int (v := .bool (decide (a ≤ b))) (by simp [binOp, Op.intCmp]; rfl)
theorem bin_gtr : binEv P .gtr t x y (.v (.int k a)) (.v (.int k b)) = some (.v (.bool (decide (b < a)))) := binFlat_int (v := .bool (decide (b < a))) (by simp [binOp, Op.intCmp]; rfl)
theorem bin_geq : binEv P .geq t x y (.v (.int k a)) (.v (.int k b)) = some (.v (.bool (decide (b ≤ a)))) := binFlat_int (v := .bool (decide (b ≤ a))) (by simp [binOp, Op.intCmp]; rfl)

theorem bin_seql {p q : List UInt8} : binEv P .eql t x y (.v (.string (bs p))) (.v (.string (bs q))) = some (.v (.bool (decide (p = q)))) := by
 show some (AV.v (.bool (p == q))) = _
 rw [Bool.eq_iff_iff.2 (by simp : (p == q) = true ↔ decide (p = q) = true)]
theorem bin_sneq {p q : List UInt8} : binEv P .neq t x y (.v (.string (bs p))) (.v (.string (bs q))) = some (.v (.bool (!decide (p = q)))) := by
 show some (AV.v (.bool (!(p == q)))) = _
 rw [Bool.eq_iff_iff.2 (by simp : (p == q) = true ↔ decide (p = q) = true)]
theorem bin_sadd {p q : List UInt8} (h : p.length + q.length ≤ 9223372036854775807) : binEv P .add t x y (.v (.string (bs p))) (.v (.string (bs q))) = some (.v (.string (bs (p ++ q)))) := by
 show (if (bs p).size + (bs q).size ≤ 9223372036854775807 then some (AV.v (.string (bs p ++ bs q))) else none) = _
 rw [bs_size, bs_size, if_pos h, bs_append]

theorem un_not {c : Bool} : unEv P .not (.v (.bool c)) = some (.v (.bool (!c))) := rfl
theorem un_neg : unEv P .neg (.v (.int k a)) = some (.v (.int k (k.wrap (0 - a)))) := rfl

theorem len_string {s : ByteArray} (hu : P.underlying t = some .string) : lenEv P t (.v (.string s)) = some (.v (.int .i64 s.size)) := by unfold lenEv; rw [hu]
theorem len_list {e : TypeId} {tk : Tok} {sz : Nat} {es : List (List AV)} (hu : P.underlying t = some (.slice e)) : lenEv P t (.list tk sz es) = some (.v (.int .i64 es.length)) := by unfold lenEv; rw [hu]
theorem len_arr {e : TypeId} {b o l c : Nat} (hu : P.underlying t = some (.slice e)) : lenEv P t (.arr b o l c) = some (.v (.int .i64 l)) := by unfold lenEv; rw [hu]

theorem index_string {l : List UInt8} (hu : P.underlying t = some .string) (h0 : 0 ≤ a) (h1 : a < l.length) : indexEv P t (.v (.string (bs l))) (.v (.int k a)) = some (.v (.int .u8 (l.getD a.toNat 0).toNat)) := by
 unfold indexEv
 rw [hu]
 have hlt : a.toNat < l.length := by omega
 simp only [if_pos h0, bs, List.getElem?_toArray, List.getElem?_eq_getElem hlt]
 simp [hlt]

theorem pick_bool {c : Bool} {u v : AV} : pickEv (.v (.bool c)) u v = some (if c = true then u else v) := by cases c <;> rfl

theorem fits_i64 (h0 : -9223372036854775808 ≤ a) (h1 : a ≤ 9223372036854775807) : IntKind.i64.wrap a = a := by
 rw [IntKind.wrap_i64]; omega
theorem fits_u8 (h0 : 0 ≤ a) (h1 : a ≤ 255) : IntKind.u8.wrap a = a := by
 rw [IntKind.wrap_u8]; omega
end

end Go.AE
end
