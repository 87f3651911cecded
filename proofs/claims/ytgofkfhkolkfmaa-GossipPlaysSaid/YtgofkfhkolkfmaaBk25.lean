/-
  Arrays in boxes, at an index that varies. Nothing of any program stands here.
-/
import Derived.Test.YtgofkfhkolkfmaaBk24
namespace Go.Bk
open Go
set_option linter.unusedVariables false
set_option linter.unusedSimpArgs false

abbrev T6 (α : Type) := α × α × α × α × α × α
def tl6 {α : Type} (x : T6 α) : List α := [x.1, x.2.1, x.2.2.1, x.2.2.2.1, x.2.2.2.2.1, x.2.2.2.2.2]
def ts6 {α : Type} (x : T6 α) (i : Nat) (y : α) : T6 α := match i with
  | 0 => (y, x.2.1, x.2.2.1, x.2.2.2.1, x.2.2.2.2.1, x.2.2.2.2.2)
  | 1 => (x.1, y, x.2.2.1, x.2.2.2.1, x.2.2.2.2.1, x.2.2.2.2.2)
  | 2 => (x.1, x.2.1, y, x.2.2.2.1, x.2.2.2.2.1, x.2.2.2.2.2)
  | 3 => (x.1, x.2.1, x.2.2.1, y, x.2.2.2.2.1, x.2.2.2.2.2)
  | 4 => (x.1, x.2.1, x.2.2.1, x.2.2.2.1, y, x.2.2.2.2.2)
  | 5 => (x.1, x.2.1, x.2.2.1, x.2.2.2.1, x.2.2.2.2.1, y)
  | _ => x
theorem tl6_set {α : Type} (x : T6 α) (i : Nat) (y : α) : tl6 (ts6 x i y) = (tl6 x).set i y := by
  match i with
  | 0 => rfl
  | 1 => rfl
  | 2 => rfl
  | 3 => rfl
  | 4 => rfl
  | 5 => rfl
  | k + 6 => simp [tl6, ts6]
theorem tl6_len {α : Type} (x : T6 α) : (tl6 x).length = 6 := rfl
def as6 {α : Type} (x : T6 α) (i : Int) (y : α) : Option (T6 α) := if 0 ≤ i ∧ i < 6 then some (ts6 x i.toNat y) else none
theorem as6_spec {α : Type} {x z : T6 α} {i : Int} {y : α} (h : as6 x i y = some z) : tl6 z = (tl6 x).set i.toNat y := by
  unfold as6 at h; split at h
  · obtain rfl := Option.some.inj h; exact tl6_set x _ y
  · cases h
abbrev T10 (α : Type) := α × α × α × α × α × α × α × α × α × α
def tl10 {α : Type} (x : T10 α) : List α := [x.1, x.2.1, x.2.2.1, x.2.2.2.1, x.2.2.2.2.1, x.2.2.2.2.2.1, x.2.2.2.2.2.2.1, x.2.2.2.2.2.2.2.1, x.2.2.2.2.2.2.2.2.1, x.2.2.2.2.2.2.2.2.2]
def ts10 {α : Type} (x : T10 α) (i : Nat) (y : α) : T10 α := match i with
  | 0 => (y, x.2.1, x.2.2.1, x.2.2.2.1, x.2.2.2.2.1, x.2.2.2.2.2.1, x.2.2.2.2.2.2.1, x.2.2.2.2.2.2.2.1, x.2.2.2.2.2.2.2.2.1, x.2.2.2.2.2.2.2.2.2)
  | 1 => (x.1, y, x.2.2.1, x.2.2.2.1, x.2.2.2.2.1, x.2.2.2.2.2.1, x.2.2.2.2.2.2.1, x.2.2.2.2.2.2.2.1, x.2.2.2.2.2.2.2.2.1, x.2.2.2.2.2.2.2.2.2)
  | 2 => (x.1, x.2.1, y, x.2.2.2.1, x.2.2.2.2.1, x.2.2.2.2.2.1, x.2.2.2.2.2.2.1, x.2.2.2.2.2.2.2.1, x.2.2.2.2.2.2.2.2.1, x.2.2.2.2.2.2.2.2.2)
  | 3 => (x.1, x.2.1, x.2.2.1, y, x.2.2.2.2.1, x.2.2.2.2.2.1, x.2.2.2.2.2.2.1, x.2.2.2.2.2.2.2.1, x.2.2.2.2.2.2.2.2.1, x.2.2.2.2.2.2.2.2.2)
  | 4 => (x.1, x.2.1, x.2.2.1, x.2.2.2.1, y, x.2.2.2.2.2.1, x.2.2.2.2.2.2.1, x.2.2.2.2.2.2.2.1, x.2.2.2.2.2.2.2.2.1, x.2.2.2.2.2.2.2.2.2)
  | 5 => (x.1, x.2.1, x.2.2.1, x.2.2.2.1, x.2.2.2.2.1, y, x.2.2.2.2.2.2.1, x.2.2.2.2.2.2.2.1, x.2.2.2.2.2.2.2.2.1, x.2.2.2.2.2.2.2.2.2)
  | 6 => (x.1, x.2.1, x.2.2.1, x.2.2.2.1, x.2.2.2.2.1, x.2.2.2.2.2.1, y, x.2.2.2.2.2.2.2.1, x.2.2.2.2.2.2.2.2.1, x.2.2.2.2.2.2.2.2.2)
  | 7 => (x.1, x.2.1, x.2.2.1, x.2.2.2.1, x.2.2.2.2.1, x.2.2.2.2.2.1, x.2.2.2.2.2.2.1, y, x.2.2.2.2.2.2.2.2.1, x.2.2.2.2.2.2.2.2.2)
  | 8 => (x.1, x.2.1, x.2.2.1, x.2.2.2.1, x.2.2.2.2.1, x.2.2.2.2.2.1, x.2.2.2.2.2.2.1, x.2.2.2.2.2.2.2.1, y, x.2.2.2.2.2.2.2.2.2)
  | 9 => (x.1, x.2.1, x.2.2.1, x.2.2.2.1, x.2.2.2.2.1, x.2.2.2.2.2.1, x.2.2.2.2.2.2.1, x.2.2.2.2.2.2.2.1, x.2.2.2.2.2.2.2.2.1, y)
  | _ => x
theorem tl10_set {α : Type} (x : T10 α) (i : Nat) (y : α) : tl10 (ts10 x i y) = (tl10 x).set i y := by
  match i with
  | 0 => rfl
  | 1 => rfl
  | 2 => rfl
  | 3 => rfl
  | 4 => rfl
  | 5 => rfl
  | 6 => rfl
  | 7 => rfl
  | 8 => rfl
  | 9 => rfl
  | k + 10 => simp [tl10, ts10]
theorem tl10_len {α : Type} (x : T10 α) : (tl10 x).length = 10 := rfl
def as10 {α : Type} (x : T10 α) (i : Int) (y : α) : Option (T10 α) := if 0 ≤ i ∧ i < 10 then some (ts10 x i.toNat y) else none
theorem as10_spec {α : Type} {x z : T10 α} {i : Int} {y : α} (h : as10 x i y = some z) : tl10 z = (tl10 x).set i.toNat y := by
  unfold as10 at h; split at h
  · obtain rfl := Option.some.inj h; exact tl10_set x _ y
  · cases h
theorem chunk_get {pre post : List Value} {α : Type} {f : α → List Value} {xs : List α} {sz i k : Nat} {x : α} {v : Value} (hl : ∀ x, (f x).length = sz) (hx : xs[i]? = some x) (hk : (f x)[k]? = some v) :
    (pre ++ ((xs.map f).flatten ++ post))[pre.length + (i * sz + k)]? = some v := by
  have hall : ∀ c ∈ xs.map f, c.length = sz := fun c hc => by rw [List.mem_map] at hc; obtain ⟨y, _, rfl⟩ := hc; exact hl y
  have hg := flat_get hall i (f x) k v (by rw [List.getElem?_map, hx]; rfl) hk
  rw [List.getElem?_append_right (by omega), Nat.add_sub_cancel_left, List.getElem?_append_left (List.getElem?_eq_some_iff.1 hg).1]
  exact hg
theorem splice_flat {sz : Nat} : ∀ {css : List (List Value)} {i k : Nat} {c us : List Value}, (∀ c ∈ css, c.length = sz) → css[i]? = some c → k + us.length ≤ c.length → splice css.flatten (i * sz + k) us = (css.set i (splice c k us)).flatten
  | [], i, k, c, us, _, h, _ => by simp at h
  | d :: css, i, k, c, us, hl, h, hk => by
    have hd : d.length = sz := hl d (by simp)
    cases i with
    | zero =>
      simp at h
      subst h
      unfold splice
      rw [List.set_cons_zero, List.flatten_cons, List.flatten_cons, Nat.zero_mul, Nat.zero_add, List.take_append_of_le_length (by omega), List.drop_append_of_le_length (by omega)]
      simp [List.append_assoc]
    | succ i =>
      have hc : c.length = sz := hl c (List.mem_of_getElem? h)
      have ih := splice_flat (css := css) (i := i) (k := k) (c := c) (us := us) (fun e he => hl e (List.mem_cons_of_mem d he)) (by simpa using h) hk
      rw [List.set_cons_succ, List.flatten_cons, List.flatten_cons, ← ih]
      unfold splice
      have e : (i + 1) * sz + k = d.length + (i * sz + k) := by rw [Nat.add_mul, hd]; omega
      rw [e, List.take_append, List.take_of_length_le (by omega), Nat.add_sub_cancel_left, Nat.add_assoc, List.drop_append, List.drop_of_length_le (by omega), Nat.add_sub_cancel_left]
      simp [List.append_assoc]
theorem splice_chunk {pre post : List Value} {α : Type} {f : α → List Value} {xs : List α} {sz i k : Nat} {x y : α} {us : List Value} (hl : ∀ x, (f x).length = sz) (hx : xs[i]? = some x) (hk : k + us.length ≤ (f x).length) (hs : splice (f x) k us = f y) :
    splice (pre ++ ((xs.map f).flatten ++ post)) (pre.length + (i * sz + k)) us = pre ++ (((xs.set i y).map f).flatten ++ post) := by
  have hall : ∀ c ∈ xs.map f, c.length = sz := fun c hc => by rw [List.mem_map] at hc; obtain ⟨y, _, rfl⟩ := hc; exact hl y
  have h1 := splice_flat (css := xs.map f) (i := i) (k := k) (c := f x) (us := us) hall (by rw [List.getElem?_map, hx]; rfl) hk
  rw [hs, ← List.map_set] at h1
  have hfl : (xs.map f).flatten.length = xs.length * sz := by rw [flat_len hall, List.length_map]
  have hlt := (List.getElem?_eq_some_iff.1 hx).1
  have hb : i * sz + k + us.length ≤ (xs.map f).flatten.length := by
    have : (i + 1) * sz ≤ xs.length * sz := Nat.mul_le_mul_right _ hlt
    rw [Nat.add_mul] at this
    rw [hl] at hk
    omega
  rw [← h1]
  unfold splice
  rw [List.take_append, List.take_of_length_le (by omega), Nat.add_sub_cancel_left, Nat.add_assoc, List.drop_append, List.drop_of_length_le (by omega), Nat.add_sub_cancel_left, List.take_append_of_le_length (by omega), List.drop_append_of_le_length (by omega)]
  simp [List.append_assoc]

section
variable {P : Program} {N : Nat} {B : World} {E : Env} {L : List HP} {ops : Array Oper} {rest : List Oper} {Q : Act → World → Prop}
variable {d : Nat} {dd : Option Tmp} {ty : TypeId} {ps : String} {af : Array Edge} {gd : Option (Nat × Bool)}
/-- A cell of an array in a box. -/
theorem StepS.ldD {t e b o sz k : Nat} {i : Int} {x : Operand} {cs : List Value} {v : Value} (pre post : List Value) {α : Type} {f : α → List Value} {xs : List α} {y : α} (hx : opv E x = some (.pointer (some ⟨b, o, none⟩))) (en : Ent L (Bx b e cs)) (ht : scalB P t = true)
    (hcs : cs = pre ++ ((xs.map f).flatten ++ post)) (ho : o = pre.length + (i.toNat * sz + k)) (hl : ∀ x, (f x).length = sz) (hi : Go.Bk.idx xs i = some y) (hk : (f y)[k]? = some v) :
    StepS P N B ⟨dd, .load t x, ty, ps, af, gd⟩ E L v :=
  StepS.ldB hx en ht (by rw [hcs, ho]; exact chunk_get hl (idx_spec hi).2 hk)
/-- An element of an array in a box, whole. -/
theorem StepS.ldDA {t e b o sz n : Nat} {i : Int} {x : Operand} {cs : List Value} (pre post : List Value) {α : Type} {f : α → List Value} {xs : List α} {y : α} (hx : opv E x = some (.pointer (some ⟨b, o, none⟩))) (en : Ent L (Bx b e cs)) (ht : aggB P t n = true)
    (hcs : cs = pre ++ ((xs.map f).flatten ++ post)) (ho : o = pre.length + i.toNat * sz) (hl : ∀ x, (f x).length = sz) (hi : Go.Bk.idx xs i = some y) (hn : sz = n) :
    StepS P N B ⟨dd, .load t x, ty, ps, af, gd⟩ E L (.agg (f y).toArray) := by
  refine StepS.ldBA hx en ht ?_ (by rw [hl, hn])
  subst hn
  apply List.ext_getElem?
  intro j
  rw [List.getElem?_take]
  split
  · rename_i hj
    have hy : (f y)[j]? = some ((f y)[j]'(by rw [hl]; exact hj)) := List.getElem?_eq_getElem _
    rw [List.getElem?_drop, hcs, ho, hy]
    have := chunk_get (pre := pre) (post := post) hl (idx_spec hi).2 hy
    rw [Nat.add_assoc]; exact this
  · rw [List.getElem?_eq_none]; rw [hl]; omega
/-- A store into an array in a box. -/
theorem TO.stD {t e b o n sz j : Nat} {i : Int} {x y : Operand} {cs us cs' : List Value} {v : Value} (k : Nat) (pre post : List Value) {α : Type} {f : α → List Value} {xs xs' : List α} {y0 y1 : α} (hx : opv E x = some (.pointer (some ⟨b, o, none⟩))) (hy : opv E y = some v) (hk : L[k]? = some (Bx b e cs)) (ht : sizeB P t n = true)
    (hv : v.cells = us.toArray) (hl : us.length = n) (h1 : ∀ u ∈ us, u.oneCell' = true) (hcs : cs = pre ++ ((xs.map f).flatten ++ post)) (ho : o = pre.length + (i.toNat * sz + j)) (hf : ∀ x, (f x).length = sz) (hi : Go.Bk.idx xs i = some y0) (hfit : Nat.ble (j + us.length) sz = true)
    (hs : splice (f y0) j us = f y1) (hset : xs' = xs.set i.toNat y1) (hcs' : cs' = pre ++ ((xs'.map f).flatten ++ post))
    (h : TO P N B ops rest E (L.set k (Bx b e cs')) Q) : TO P N B ops (⟨none, .store t x y, ty, ps, af, none⟩ :: rest) E L Q := by
  have hfit' : j + us.length ≤ sz := by simpa [Nat.ble_eq] using hfit
  have hsp := splice_chunk (pre := pre) (post := post) hf (idx_spec hi).2 (us := us) (by rw [hf]; exact hfit') hs
  have hlt := (List.getElem?_eq_some_iff.1 (idx_spec hi).2).1
  have hall : ∀ c ∈ xs.map f, c.length = sz := fun c hc => by rw [List.mem_map] at hc; obtain ⟨y, _, rfl⟩ := hc; exact hf y
  have hfl : (xs.map f).flatten.length = xs.length * sz := by rw [flat_len hall, List.length_map]
  have hb : (i.toNat + 1) * sz ≤ xs.length * sz := Nat.mul_le_mul_right _ hlt
  rw [Nat.add_mul] at hb
  refine TO.step0 rfl rfl (StepW.stB hx hy hk ht hv hl ?_ h1 (cs' := cs') ?_) fun u L' ⟨_, hL⟩ => by subst hL; exact h
  · rw [hcs, ho, List.length_append, List.length_append, hfl]; omega
  · rw [hcs, ho, hsp, hcs', hset]
end
end Go.Bk
