/-
  From a row's arguments to what the walks are told, and back. Nothing of any program stands here.
-/
import Derived.Test.YtgofkfhkolkfmaaBk5
import Derived.OpenShut
import Derived.ProofKit
import Derived.OpenShut
import Derived.ChangeOld
import Derived.Below
import Derived.Deep.Slices
namespace Go.Bk
open Go Go.RowKit
set_option linter.unusedVariables false
set_option linter.unusedSimpArgs false

/-- The whole of the memory that was there. -/
def Was (W : World) : HP := fun h => ∀ b, b < W.heap.size → h b = W.heap[b]?
theorem St.start (W : World) : St W [Was W] W :=
  ⟨⟨rfl, DrawnOk.rfl W⟩, rfl, rfl, hw W, fun _ => none, fun _ => .inr rfl, Sub.refl _, fun _ _ e => (by cases e), fun _ _ => rfl, trivial⟩
theorem St.below {W W' : World} (s : St W [Was W] W') : Below W.heap.size W W' := by
  obtain ⟨h1, h2, _, s1, _, a, _⟩ := s.sat
  have key : ∀ k, k < W.heap.size → W'.heap[k]? = W.heap[k]? := fun k hk => by
    have e := a k hk
    rw [Array.getElem?_eq_getElem hk] at e ⊢
    exact s1 k _ e
  refine ⟨s.os.1, s.tape, s.output, ?_, key⟩
  rcases Nat.lt_or_ge W'.heap.size W.heap.size with x | x
  · have := key W'.heap.size x
    rw [Array.getElem?_eq_getElem x] at this
    simp at this
  · exact x

def i64 (n : Int) : Prop := -9223372036854775808 ≤ n ∧ n ≤ 9223372036854775807
theorem i64_of {n : Int} (h : (Lit.int .i64 n).wf = true) : i64 n := by
  simp [Lit.wf, IntKind.min, IntKind.max, IntKind.signed, IntKind.bits] at h; exact h
theorem u32_of {n : Int} (h : (Lit.int .u32 n).wf = true) : ∃ x : BitVec 32, n = (x.toNat : Int) := by
  simp [Lit.wf, IntKind.min, IntKind.max, IntKind.signed, IntKind.bits] at h
  refine ⟨BitVec.ofNat 32 n.toNat, ?_⟩
  simp
  omega

theorem cell_block {W : World} {b o : Nat} {v : Value} (h : W.cell? ⟨b, o, none⟩ = some v) : ∃ arr e fz, W.heap[b]? = some (.cells arr e fz) ∧ arr[o]? = some v ∧ b < W.heap.size := by
  unfold World.cell? at h
  cases x : W.heap[b]? with
  | none => simp [x] at h
  | some u =>
    cases u with
    | cells arr e fz => simp [x] at h; exact ⟨arr, e, fz, rfl, h, (Array.getElem?_eq_some_iff.1 x).1⟩
    | _ => simp [x] at h
theorem build_list {α : Type} (p : Nat → α → Prop) : ∀ (n : Nat), (∀ i, i < n → ∃ y, p i y) → ∃ xs : List α, xs.length = n ∧ ∀ i y, xs[i]? = some y → p i y
  | 0, _ => ⟨[], rfl, fun i y h => by simp at h⟩
  | n + 1, h => by
    obtain ⟨xs, hl, hx⟩ := build_list p n (fun i hi => h i (by omega))
    obtain ⟨y, hy⟩ := h n (by omega)
    refine ⟨xs ++ [y], by simp [hl], fun i z hz => ?_⟩
    rw [List.getElem?_append] at hz
    split at hz
    · exact hx i z hz
    · rename_i hi
      have : i - xs.length = 0 := by
        rcases Nat.eq_zero_or_pos (i - xs.length) with q | q
        · exact q
        · rw [List.getElem?_eq_none (by simp; omega)] at hz; cases hz
      rw [this] at hz
      simp at hz
      subst hz
      have : i = n := by omega
      subst this
      exact hy

section
variable {H : Type} {enc : TypeId × Value → H} {P : Program} {W : World}

/-- How the cells of one value are read: a model of them, and what is known of it. -/
def Opens (P : Program) (W : World) {H : Type} (enc : TypeId × Value → H) (t : TypeId) {α : Type} (cf : α → List Value) (wf : α → Prop) : Prop :=
  ∀ n cs x, DataW.trod enc P W 0 (fun _ => true) true n t cs = some x → ∃ y, cs = cf y ∧ wf y
theorem opens_int {t : TypeId} (ht : P.underlying t = some (.int .i64)) : Opens P W enc t cI i64 := fun n cs x h => by
  obtain ⟨k, rfl, _, hw⟩ := DataW.trod_int ht h; exact ⟨k, rfl, i64_of hw⟩
theorem opens_u32 {t : TypeId} (ht : P.underlying t = some (.int .u32)) : Opens P W enc t cU (fun _ => True) := fun n cs x h => by
  obtain ⟨k, rfl, _, hw⟩ := DataW.trod_int ht h
  obtain ⟨y, rfl⟩ := u32_of hw
  exact ⟨y, rfl, trivial⟩
theorem opens_bool {t : TypeId} (ht : P.underlying t = some .bool) : Opens P W enc t cB (fun _ => True) := fun n cs x h => by
  obtain ⟨k, rfl, _⟩ := DataW.trod_bool ht h; exact ⟨k, rfl, trivial⟩
theorem opens_str {t : TypeId} (ht : P.underlying t = some .string) : Opens P W enc t cS (fun s => s.size ≤ maxLen) := fun n cs x h => by
  obtain ⟨k, rfl, _, hs⟩ := DataW.trod_string ht h; exact ⟨k, rfl, hs⟩
/-- A field's part of a struct's cells. -/
theorem field_open {ft o sz i : Nat} {fs : Array Field} {α : Type} {cf : α → List Value} {wf : α → Prop} {m : Nat} {xs : List (DataW H × List MemPlace)} {cs : List Value} (ho : Opens P W enc ft cf wf)
    (hlen : xs.length = fs.size) (hf : ∀ (i : Nat) (f : Field), fs[i]? = some f → DataW.trod enc P W 0 (fun _ => true) true m f.type ((cs.drop f.offset).take (P.cellsOf f.type)) = xs[i]?)
    (hi : (fs[i]?).map (fun f => (f.type, f.offset)) = some (ft, o)) (hs : P.cellsOf ft = sz) : ∃ y, (cs.drop o).take sz = cf y ∧ wf y := by
  obtain ⟨f, hi, hto⟩ := Option.map_eq_some_iff.1 hi
  simp only [Prod.mk.injEq] at hto
  have h1 := hf i f hi
  have hlt : i < xs.length := by rw [hlen]; exact (Array.getElem?_eq_some_iff.1 hi).1
  rw [List.getElem?_eq_getElem hlt, hto.1, hto.2, hs] at h1
  exact ho _ _ _ h1

/-- An element's part of an array's cells. -/
theorem elem_open {e o sz i n : Nat} {α : Type} {cf : α → List Value} {wf : α → Prop} {m : Nat} {xs : List (DataW H × List MemPlace)} {cs : List Value} (ho : Opens P W enc e cf wf)
    (hlen : xs.length = n) (hel : ∀ (i : Nat), i < n → DataW.trod enc P W 0 (fun _ => true) true m e ((cs.drop (i * P.cellsOf e)).take (P.cellsOf e)) = xs[i]?)
    (hi : i < n) (hs : P.cellsOf e = sz) (hio : i * sz = o) : ∃ y, (cs.drop o).take sz = cf y ∧ wf y := by
  have h1 := hel i hi
  rw [List.getElem?_eq_getElem (by omega), hs, hio] at h1
  exact ho _ _ _ h1

/-- A slice that came in. -/
theorem open_rd {t e sz : Nat} {α : Type} {cf : α → List Value} {wf : α → Prop} (ht : sliceB P t e sz = true) (hpos : 0 < sz) {v : Value} {d : DataW H} {ps : List MemPlace} (hv : ∃ a len cap, v = .slice a len cap)
    (h : DataW.Trod enc P W 0 (fun _ => true) true t v d ps) (ho : Opens P W enc e cf wf) : ∃ xs : List α, Ent [Was W] (Rd sz v (xs.map cf)) ∧ xs.length ≤ 9223372036854775807 ∧ ∀ x ∈ xs, wf x := by
  obtain ⟨hu, hs⟩ := sliceB_spec ht
  obtain ⟨i, hi, hsz⟩ := sizeB_spec hs
  have hc : P.cellsOf e = sz := by simp [Program.cellsOf, hi, hsz]
  obtain ⟨a0, l0, c0, rfl⟩ := hv
  obtain ⟨fuel, hf⟩ := h
  rcases Deep.open_slice hu hf with ⟨hcs, _⟩ | ⟨a, len, cap, m, n, D, Pl, hcs, _, hl, hm, hmm, _, hx⟩
  · simp [Value.cells] at hcs
    obtain ⟨rfl, rfl, rfl⟩ := hcs
    refine ⟨[], ?_, by simp, by simp⟩
    exact fun g _ => ⟨fun _ => none, fun _ _ e => (by cases e), fun _ h => (by cases h), .inl ⟨⟨none, rfl⟩, rfl⟩⟩
  · simp [Value.cells] at hcs
    obtain ⟨rfl, rfl, rfl⟩ := hcs
    simp only [if_true] at hmm
    subst hmm
    rw [hc] at hx
    have hm' : m ≤ 9223372036854775807 := by unfold maxLen at hm; omega
    by_cases h0 : m = 0
    · subst h0
      have : l0 = 0 := by omega
      subst this
      refine ⟨[], ?_, by simp, by simp⟩
      exact fun g _ => ⟨fun _ => none, fun _ _ e => (by cases e), fun _ h => (by cases h), .inl ⟨⟨_, rfl⟩, rfl⟩⟩
    · obtain ⟨b, o, sp⟩ := a
      have hspot : sp = none := by
        obtain ⟨cs', h1, _⟩ := hx 0 (by omega)
        obtain ⟨_, hlen, hcell⟩ := World.cells?_some h1
        have := hcell 0 hpos
        have hl0 : 0 < cs'.length := by omega
        rw [List.getElem?_eq_getElem hl0] at this
        simp [Addr.add] at this
        exact World.cell?_spot this
      subst hspot
      have hel : ∀ i, i < l0 → ∃ y : α, (∀ j u, (cf y)[j]? = some u → W.cell? ⟨b, o + (i * sz + j), none⟩ = some u) ∧ (cf y).length = sz ∧ wf y := fun i hi => by
        obtain ⟨cs', h1, h2⟩ := hx i (by omega)
        obtain ⟨_, hlen, hcell⟩ := World.cells?_some h1
        obtain ⟨y, rfl, hw⟩ := ho _ _ _ h2
        refine ⟨y, fun j u hj => ?_, hlen, hw⟩
        have hjl : j < (cf y).length := (List.getElem?_eq_some_iff.1 hj).1
        have := hcell j (by omega)
        rw [add_lit, add_lit] at this
        rw [← Nat.add_assoc, this, hj]
      obtain ⟨xs, hxl, hxs⟩ := build_list _ l0 hel
      obtain ⟨arr, el, fz, hb, _, hlt⟩ : ∃ arr e fz, W.heap[b]? = some (.cells arr e fz) ∧ True ∧ b < W.heap.size := by
        obtain ⟨cs', h1, _⟩ := hx 0 (by omega)
        obtain ⟨_, hlen, hcell⟩ := World.cells?_some h1
        have := hcell 0 hpos
        have hl0 : 0 < cs'.length := by omega
        rw [List.getElem?_eq_getElem hl0, add_lit, add_lit] at this
        obtain ⟨arr, el, fz, h1, _, h3⟩ := cell_block this
        exact ⟨arr, el, fz, h1, trivial, h3⟩
      refine ⟨xs, ?_, by omega, fun x hx' => ?_⟩
      · intro g sg
        obtain ⟨h1, h2, _, s1, _, was, _⟩ := sg
        refine ⟨h1, s1, ?_, .inr ⟨b, o, m, arr, el, fz, by simp [hxl], by simp [hxl]; exact hl, by unfold maxLen; omega, by rw [was b hlt, hb], ?_⟩⟩
        · intro c hc'
          rw [List.mem_map] at hc'
          obtain ⟨y, hy, rfl⟩ := hc'
          obtain ⟨i, hi⟩ := List.getElem?_of_mem hy
          exact (hxs i y hi).2.1
        · intro i c j u hi hj
          rw [List.getElem?_map] at hi
          cases hy : xs[i]? with
          | none => rw [hy] at hi; cases hi
          | some y =>
            rw [hy] at hi
            simp at hi
            subst hi
            have := (hxs i y hy).1 j u hj
            obtain ⟨arr', el', fz', h1', h2', _⟩ := cell_block this
            rw [hb] at h1'
            cases h1'
            exact h2'
      · obtain ⟨i, hi⟩ := List.getElem?_of_mem hx'
        exact (hxs i x hi).2.2

/-- A scalar, a struct of scalars that came in. -/
theorem open_val {t : Nat} {α : Type} {cf : α → List Value} {wf : α → Prop} {v : Value} {d : DataW H} {ps : List MemPlace} (h : DataW.Trod enc P W 0 (fun _ => true) true t v d ps) (ho : Opens P W enc t cf wf) : ∃ x : α, v.cells.toList = cf x ∧ wf x := by
  obtain ⟨fuel, hf⟩ := h
  exact ho _ _ _ hf
theorem trod_below {t : Nat} (hl : laidOutB P = true) (hr : P.readableRec t = true) (hrow : t < P.types.size) {W' : World} {v : Value} {d : DataW H} {ps : List MemPlace} (h : DataW.Trod enc P W 0 (fun _ => true) true t v d ps) (hb : Below W.heap.size W W') :
    DataW.Trod enc P W' 0 (fun b => decide (b < W.heap.size)) true t v d ps :=
  Below.trod hl hr hrow h hb (by obtain ⟨m, hm⟩ := h; exact DataW.trod_lt m _ _ _ hm)
end
end Go.Bk
