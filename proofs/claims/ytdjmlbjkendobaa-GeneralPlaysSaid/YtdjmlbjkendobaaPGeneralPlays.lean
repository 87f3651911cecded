/-
  The plain law of GeneralPlays.
-/
import Derived.Test.YtdjmlbjkendobaaGM
import Derived.Test.YtdjmlbjkendobaaPw
import Derived.Test.YtdjmlbjkendobaaBk6
namespace Go.Proofs.Ytdjmlbjkendobaa
open Go Go.Bk
set_option linter.unusedVariables false
set_option linter.unusedSimpArgs false

theorem whileM_none {σ β ρ : Type} {body : σ → Option (Ctl σ β ρ)} {s : σ} (h : body s = none) : whileM body s = none := by
  cases x : whileM body s with
  | none => rfl
  | some c =>
    obtain ⟨n, hn⟩ := whileM_iter.1 x
    cases n with
    | zero => simp [iterM] at hn
    | succ n => rw [iterM, h] at hn; cases hn
theorem w64i {x : Int} (h0 : -9000000000 ≤ x) (h1 : x ≤ 9000000000) : w64 x = x := w64_of (by omega) (by omega)
def om (o : List Nat) : List Int := o.map (fun (n : Nat) => (n : Int))
theorem om_get {o : List Nat} {k : Nat} (h : k < o.length) : (om o)[k]? = some ((o[k] : Nat) : Int) := by simp [om, h]
theorem om_len (o : List Nat) : (om o).length = o.length := by simp [om]
theorem has_val (o : List Nat) (ho : o.length ≤ 8) (j : Nat) : F62 (om o) (j : Int) = some (decide (j ∈ o)) := by
  have key : ∀ m k, k + m = o.length → whileM (F62_L0 (om o) (j : Int)) (k : Int) = some (cond (decide (j ∈ o.drop k)) (.ret true) (.brk ())) := by
    intro m
    induction m with
    | zero =>
      intro k hk
      have hd : decide ((k : Int) < ((om o).length : Int)) = false := by rw [decide_eq_false_iff_not, om_len]; omega
      rw [whileM_brk (s' := ()) (by simp only [F62_L0, hd, cond_false]), List.drop_of_length_le (by omega)]
      simp
    | succ m ih =>
      intro k hk
      have hkl : k < o.length := by omega
      have hd : decide ((k : Int) < ((om o).length : Int)) = true := by rw [decide_eq_true_eq, om_len]; omega
      rw [List.drop_eq_getElem_cons hkl]
      by_cases c : j = o[k]
      · have hb : ((j : Int) == ((o[k] : Nat) : Int)) = true := by rw [beq_iff_eq, c]
        rw [whileM_ret (r := true) (by simp only [F62_L0, hd, cond_true, idx_some (om_get hkl), Option.bind_some, hb])]
        rw [decide_eq_true (List.mem_cons.2 (.inl c))]; rfl
      · have hb : ((j : Int) == ((o[k] : Nat) : Int)) = false := by rw [beq_eq_false_iff_ne]; omega
        rw [whileM_nxt (s' := ((k + 1 : Nat) : Int)) (by simp only [F62_L0, hd, cond_true, idx_some (om_get hkl), Option.bind_some, hb, cond_false, w64_succ hkl (show o.length ≤ 9223372036854775807 by omega)]), ih (k + 1) (by omega)]
        simp only [List.mem_cons, c, false_or]
  have h := key o.length 0 (by omega)
  have h' : whileM (F62_L0 (om o) (j : Int)) 0 = _ := h
  unfold F62
  rw [h', List.drop_zero]
  by_cases c : j ∈ o <;> simp [c, Ctl.on]
theorem bit_val {w : BitVec 32} {j : Nat} (hj : j < 32) : F23 w (j : Int) = some (w.getLsbD j) := by
  have h1 : decide ((j : Int) ≥ 0) = true := by rw [decide_eq_true_eq]; omega
  have h2 : decide ((j : Int) < 32) = true := by rw [decide_eq_true_eq]; omega
  unfold F23
  rw [h1, h2, u64_nat (by omega), and_bit hj]; rfl

/-! Paths, the last host first. -/
abbrev Nd := (BitVec 32) × Int × Int × Int
def setR : List Nat → BitVec 32
  | [] => 0#32
  | j :: q => setR q ||| (1#32 <<< j)
def numR : List Nat → Nat
  | [] => 0
  | j :: q => numR q * 8 + j
def mk : List Nat → List Nd
  | [] => []
  | j :: q => (setR (j :: q), (numR (j :: q) : Int), ((q.length + 1 : Nat) : Int), (j : Int)) :: mk q
theorem numR_lt : ∀ {q : List Nat}, (∀ j ∈ q, j < 8) → numR q < 8 ^ q.length
  | [], _ => by simp [numR]
  | j :: q, h => by
    have h1 := numR_lt (q := q) (fun i hi => h i (List.mem_cons_of_mem j hi))
    have h2 := h j (by simp)
    rw [numR, List.length_cons, Nat.pow_succ]; omega
theorem numR_b {q : List Nat} (h : ∀ j ∈ q, j < 8) (hl : q.length ≤ 3) : numR q < 512 := by
  have h1 := numR_lt h
  have : 8 ^ q.length ≤ 8 ^ 3 := Nat.pow_le_pow_right (by decide) hl
  omega
theorem setR_bit {k : Nat} : ∀ {q : List Nat}, (∀ j ∈ q, j < 8) → (setR q).getLsbD k = decide (k ∈ q)
  | [], _ => by simp [setR]
  | j :: q, h => by
    have hj := h j (by simp)
    rw [setR, BitVec.getLsbD_or, setR_bit (q := q) (fun i hi => h i (List.mem_cons_of_mem j hi)), bit_one (by omega)]
    by_cases c1 : k = j <;> by_cases c2 : k ∈ q <;> simp [c1, c2]

section
variable {n deep : Nat} {order : Bool} {liars : BitVec 32} {lies : List Bool}
variable (hl : ∀ j, j < 8 → liars.getLsbD j = true → lies ≠ []) (hll : lies.length ≤ 9223372036854775807)
/-- What a host is told by a path. -/
def T (order : Bool) (liars : BitVec 32) (lies : List Bool) : List Nat → Nat → Bool
  | [], _ => order
  | j :: q, to => cond (liars.getLsbD j) (lies.getD ((numR (j :: q) * 8 + to) % lies.length) false) (cond (q.isEmpty) order (T order liars lies q j))
theorem lie_val (hne : lies ≠ []) (m to : Nat) (hm : m < 512) (hto : to < 8) :
    (Option.bind (nz (lies.length : Int)) fun _ => Option.bind (idx lies ((w64 ((w64 ((m : Int) * 8)) + (to : Int))).tmod (lies.length : Int))) fun x9 => some x9) = some (lies.getD ((m * 8 + to) % lies.length) false) := by
  have hpos : 0 < lies.length := List.length_pos_iff.2 hne
  have h1 : nz (lies.length : Int) = some () := by unfold nz; rw [if_neg (by omega)]
  rw [w64i (x := (m : Int) * 8) (by omega) (by omega), w64i (x := (m : Int) * 8 + (to : Int)) (by omega) (by omega), h1, Option.bind_some]
  have h2 : (((m : Int) * 8 + (to : Int))).tmod (lies.length : Int) = (((m * 8 + to) % lies.length : Nat) : Int) := by
    rw [show ((m : Int) * 8 + (to : Int)) = ((m * 8 + to : Nat) : Int) by push_cast; rfl, Int.tmod_eq_emod_of_nonneg (by omega), ← Int.natCast_emod]
  have hlt : (m * 8 + to) % lies.length < lies.length := Nat.mod_lt _ hpos
  rw [h2, idx_nat, List.getElem?_eq_getElem hlt, Option.bind_some, List.getD_eq_getElem?_getD, List.getElem?_eq_getElem hlt]; rfl
include hl in
theorem told_R : ∀ (m : Nat) (j : Nat) (q : List Nat) (to : Nat), (∀ i ∈ j :: q, i < 8) → (j :: q).length ≤ 3 → to < 8 →
    (F82_R m (n : Int) (deep : Int) order liars lies (mk (j :: q)) (to : Int) = none ∧ m ≤ q.length) ∨ F82_R m (n : Int) (deep : Int) order liars lies (mk (j :: q)) (to : Int) = some (T order liars lies (j :: q) to)
  | 0, j, q, to, hq, hlen, hto => .inl ⟨rfl, by omega⟩
  | m + 1, j, q, to, hq, hlen, hto => by
    have hj := hq j (by simp)
    have hb : ((((liars >>> j) &&& (1#32)) == (1#32))) = liars.getLsbD j := by rw [and_one]; cases liars.getLsbD j <;> rfl
    have hnum := numR_b hq hlen
    have hs : F82_R (m + 1) (n : Int) (deep : Int) order liars lies (mk (j :: q)) (to : Int) = F82_B (F82_R m) (n : Int) (deep : Int) order liars lies (mk (j :: q)) (to : Int) := rfl
    have hu : unc (mk (j :: q)) = some ((setR (j :: q), (numR (j :: q) : Int), ((q.length + 1 : Nat) : Int), (j : Int)), mk q) := rfl
    rw [hs]
    cases c : liars.getLsbD j with
    | true =>
      right
      have := lie_val (hl j hj c) (numR (j :: q)) to hnum hto
      simp only [F82_B, hu, Option.bind_some, shc_nat, hb, c, cond_true, this, T]
    | false =>
      cases q with
      | nil =>
        right
        simp only [F82_B, hu, Option.bind_some, shc_nat, hb, c, cond_false, T]
        rfl
      | cons i q =>
        have e1 : ((((i :: q).length + 1 : Nat) : Int) == 1) = false := by rw [beq_eq_false_iff_ne, List.length_cons]; omega
        rcases told_R m i q j (fun x hx => hq x (List.mem_cons_of_mem j hx)) (by simp at hlen ⊢; omega) hj with ⟨h, hm⟩ | h
        · left
          refine ⟨?_, by simp; omega⟩
          simp only [F82_B, hu, Option.bind_some, shc_nat, hb, c, cond_false, e1, h, Option.bind_none]
        · right
          rw [T]
          simp only [F82_B, hu, Option.bind_some, shc_nat, hb, c, cond_false, e1, h, List.isEmpty_cons]
include hl in
theorem told_val (j : Nat) (q : List Nat) (to : Nat) (hq : ∀ i ∈ j :: q, i < 8) (hlen : (j :: q).length ≤ 3) (hto : to < 8) : F82 (n : Int) (deep : Int) order liars lies (mk (j :: q)) (to : Int) = some (T order liars lies (j :: q) to) := by
  refine fixO_of (f := fun m => F82_R m (n : Int) (deep : Int) order liars lies (mk (j :: q)) (to : Int)) (q.length + 1) ?_ ?_
  · rcases told_R (n := n) (deep := deep) (order := order) hl (q.length + 1) j q to hq hlen hto with ⟨_, h⟩ | h
    · omega
    · exact h
  · intro m r hr
    rcases told_R (n := n) (deep := deep) (order := order) hl m j q to hq hlen hto with ⟨h, _⟩ | h
    · have hr' : F82_R m (n : Int) (deep : Int) order liars lies (mk (j :: q)) (to : Int) = some r := hr
      rw [h] at hr'; cases hr'
    · have hr' : F82_R m (n : Int) (deep : Int) order liars lies (mk (j :: q)) (to : Int) = some r := hr
      rw [h] at hr'; exact (Option.some.inj hr').symm

/-! The document's answer: what is said. -/
theorem num_val {q : List Nat} (hq : ∀ i ∈ q, i < 8) (hlen : q.length ≤ 3) : whileM (F61_L0 (om q.reverse)) (0, 0) = some (.brk (numR q : Int)) := by
  have key : ∀ (p : List Nat) (s : List Nat), q.reverse = s ++ p → whileM (F61_L0 (om q.reverse)) ((numR s.reverse : Int), (s.length : Int)) = some (.brk (numR q : Int)) := by
    intro p
    induction p with
    | nil =>
      intro s hs
      rw [List.append_nil] at hs
      have hd : decide ((s.length : Int) < ((om q.reverse).length : Int)) = false := by rw [decide_eq_false_iff_not, om_len, hs]; omega
      rw [whileM_brk (s' := (numR s.reverse : Int)) (by simp only [F61_L0, hd, cond_false]), ← hs, List.reverse_reverse]
    | cons x p ih =>
      intro s hs
      have hlt : s.length < q.reverse.length := by rw [hs]; simp
      have hd : decide ((s.length : Int) < ((om q.reverse).length : Int)) = true := by rw [decide_eq_true_eq, om_len]; omega
      have hx : (om q.reverse)[s.length]? = some (x : Int) := by rw [hs]; simp [om]
      have hin : ∀ y ∈ s ++ [x], y < 8 := fun y hy => hq y (by rw [← List.mem_reverse, hs]; simp at hy ⊢; rcases hy with h | h <;> simp [h])
      have hsl : (s ++ [x]).length ≤ 3 := by have := congrArg List.length hs; simp at this ⊢; omega
      have hb := numR_b (q := (s ++ [x]).reverse) (fun y hy => hin y (List.mem_reverse.1 hy)) (by simpa using hsl)
      have hrev : (s ++ [x]).reverse = x :: s.reverse := by simp
      rw [hrev, numR] at hb
      have hstep : F61_L0 (om q.reverse) ((numR s.reverse : Int), (s.length : Int)) = some (.nxt ((numR (s ++ [x]).reverse : Int), ((s ++ [x]).length : Int))) := by
        have e1 : w64 ((numR s.reverse : Int) * 8) = (numR s.reverse : Int) * 8 := w64i (by omega) (by omega)
        have e2 : w64 ((numR s.reverse : Int) * 8 + (x : Int)) = (numR (s ++ [x]).reverse : Int) := by rw [w64i (by omega) (by omega), hrev, numR]; push_cast; rfl
        have e3 : w64 ((s.length : Int) + 1) = ((s ++ [x]).length : Int) := by rw [w64i (by omega) (by simp at hsl; omega)]; simp
        simp only [F61_L0, hd, cond_true, idx_some hx, Option.bind_some, e1, e2, e3]
      rw [whileM_nxt hstep]
      exact ih (s ++ [x]) (by rw [hs]; simp)
  exact key q.reverse [] (by simp)
include hl in
theorem said_R : ∀ (m : Nat) (j : Nat) (q : List Nat) (to : Nat), (∀ i ∈ j :: q, i < 8) → (j :: q).length ≤ 3 → to < 8 →
    (F61_R m order liars lies (om (j :: q).reverse) (to : Int) = none ∧ m ≤ q.length) ∨ F61_R m order liars lies (om (j :: q).reverse) (to : Int) = some (T order liars lies (j :: q) to)
  | 0, j, q, to, hq, hlen, hto => .inl ⟨rfl, by omega⟩
  | m + 1, j, q, to, hq, hlen, hto => by
    have hj := hq j (by simp)
    have hnum := numR_b hq hlen
    have hL : (om (j :: q).reverse).length = q.length + 1 := by rw [om_len]; simp
    have hi : idx (om (j :: q).reverse) (w64 (((om (j :: q).reverse).length : Int) - 1)) = some (j : Int) := by
      rw [hL, show (((q.length + 1 : Nat) : Int) - 1) = (q.length : Int) by push_cast; omega, w64i (by omega) (by simp at hlen; omega), idx_nat]
      simp [om]
    have hs : F61_R (m + 1) order liars lies (om (j :: q).reverse) (to : Int) = F61_B (F61_R m) order liars lies (om (j :: q).reverse) (to : Int) := rfl
    rw [hs]
    cases c : liars.getLsbD j with
    | true =>
      right
      have := lie_val (hl j hj c) (numR (j :: q)) to hnum hto
      simp only [F61_B, hi, Option.bind_some, bit_val (w := liars) (j := j) (by omega), c, cond_true, num_val hq hlen, Ctl.on, this, T]
    | false =>
      cases q with
      | nil =>
        right
        simp only [F61_B, hi, Option.bind_some, bit_val (w := liars) (j := j) (by omega), c, cond_false, T]
        rfl
      | cons i q =>
        have e1 : (((om (j :: i :: q).reverse).length : Int) == 1) = false := by rw [beq_eq_false_iff_ne, hL, List.length_cons]; omega
        have e2 : slI (om (j :: i :: q).reverse) 0 (w64 (((om (j :: i :: q).reverse).length : Int) - 1)) = some (om (i :: q).reverse) := by
          rw [hL, show ((((i :: q).length + 1 : Nat) : Int) - 1) = ((i :: q).length : Int) by push_cast; omega, w64i (by omega) (by simp at hlen ⊢; omega)]
          unfold slI
          rw [if_pos ⟨by omega, by omega, by rw [hL]; omega⟩]
          simp [om, List.take_append]
          exact List.take_of_length_le (by simp)
        rcases said_R m i q j (fun x hx => hq x (List.mem_cons_of_mem j hx)) (by simp at hlen ⊢; omega) hj with ⟨h, hm⟩ | h
        · left
          refine ⟨?_, by simp; omega⟩
          simp only [F61_B, hi, Option.bind_some, bit_val (w := liars) (j := j) (by omega), c, cond_false, e1, e2, h, Option.bind_none]
        · right
          rw [T]
          simp only [F61_B, hi, Option.bind_some, bit_val (w := liars) (j := j) (by omega), c, cond_false, e1, e2, h, List.isEmpty_cons]
include hl in
theorem said_val (j : Nat) (q : List Nat) (to : Nat) (hq : ∀ i ∈ j :: q, i < 8) (hlen : (j :: q).length ≤ 3) (hto : to < 8) : F61 order liars lies (om (j :: q).reverse) (to : Int) = some (T order liars lies (j :: q) to) := by
  refine fixO_of (f := fun m => F61_R m order liars lies (om (j :: q).reverse) (to : Int)) (q.length + 1) ?_ ?_
  · rcases said_R (order := order) hl (q.length + 1) j q to hq hlen hto with ⟨_, h⟩ | h
    · omega
    · exact h
  · intro m r hr
    rcases said_R (order := order) hl m j q to hq hlen hto with ⟨h, _⟩ | h
    · have hr' : F61_R m order liars lies (om (j :: q).reverse) (to : Int) = some r := hr
      rw [h] at hr'; cases hr'
    · have hr' : F61_R m order liars lies (om (j :: q).reverse) (to : Int) = some r := hr
      rw [h] at hr'; exact (Option.some.inj hr').symm

end
/-! What is believed. -/
section
variable {n deep : Nat} {order : Bool} {liars : BitVec 32} {lies : List Bool}
def skp (i : Nat) (p : List Nat) (k : Nat) : Bool := decide (k = i) || decide (k ∈ p)
/-- The sum of those from k on, r of them. -/
def sm (f : Nat → Bool) (s : Nat → Bool) : Nat → Nat → Int → Int
  | 0, _, x => x
  | r + 1, k, x => sm f s r (k + 1) (cond (s k) x (cond (f k) (x + 1) (x - 1)))
def ya (f : Nat → Bool) (s : Nat → Bool) : Nat → Nat → Int × Int → Int × Int
  | 0, _, x => x
  | r + 1, k, x => ya f s r (k + 1) (cond (s k) x (cond (f k) (x.1 + 1, x.2 + 1) (x.1, x.2 + 1)))
theorem sm_ya (f s : Nat → Bool) : ∀ (r k : Nat) (x : Int) (y : Int × Int), x = 2 * y.1 - y.2 → sm f s r k x = 2 * (ya f s r k y).1 - (ya f s r k y).2
  | 0, k, x, y, h => h
  | r + 1, k, x, y, h => by
    rw [sm, ya]
    apply sm_ya
    cases s k <;> cases f k <;> simp <;> omega
theorem ya_b (f s : Nat → Bool) : ∀ (r k : Nat) (y : Int × Int), 0 ≤ y.1 → y.1 ≤ y.2 → 0 ≤ (ya f s r k y).1 ∧ (ya f s r k y).1 ≤ (ya f s r k y).2 ∧ (ya f s r k y).2 ≤ y.2 + r
  | 0, k, y, h0, h1 => ⟨h0, h1, by simp [ya]⟩
  | r + 1, k, y, h0, h1 => by
    rw [ya]
    have key : ∀ z : Int × Int, 0 ≤ z.1 → z.1 ≤ z.2 → z.2 ≤ y.2 + 1 → 0 ≤ (ya f s r (k + 1) z).1 ∧ (ya f s r (k + 1) z).1 ≤ (ya f s r (k + 1) z).2 ∧ (ya f s r (k + 1) z).2 ≤ y.2 + ((r + 1 : Nat) : Int) := fun z a b c => by
      have := ya_b f s r (k + 1) z a b
      refine ⟨this.1, this.2.1, ?_⟩
      have := this.2.2
      push_cast; omega
    cases s k
    · cases f k
      · exact key (y.1, y.2 + 1) h0 (by simp; omega) (by simp)
      · exact key (y.1 + 1, y.2 + 1) (by simp; omega) (by simp; omega) (by simp)
    · exact key y h0 h1 (by omega)
def Bl (n : Nat) (order : Bool) (liars : BitVec 32) (lies : List Bool) (i : Nat) : Nat → List Nat → Bool
  | 0, p => T order liars lies p i
  | d + 1, p => decide (sm (fun k => Bl n order liars lies i d (k :: p)) (skp i p) n 0 (cond (T order liars lies p i) 1 (-1)) > 0)
variable (hn : n ≤ 7) (hl : ∀ j, j < 8 → liars.getLsbD j = true → lies ≠ []) (hd2 : deep ≤ 2)
theorem on_val {j : Nat} {q : List Nat} (hq : ∀ x ∈ j :: q, x < 8) (hlen : (j :: q).length ≤ 2) {k : Nat} (hk : k < 8) : F83 (mk (j :: q)) (k : Int) = some (mk (k :: j :: q)) := by
  have hb := numR_b (q := j :: q) hq (by omega)
  have hu : unc (mk (j :: q)) = some ((setR (j :: q), (numR (j :: q) : Int), ((q.length + 1 : Nat) : Int), (j : Int)), mk q) := rfl
  have e1 : w64 ((numR (j :: q) : Int) * 8) = (numR (j :: q) : Int) * 8 := w64i (by omega) (by omega)
  have e2 : w64 ((numR (j :: q) : Int) * 8 + (k : Int)) = (numR (k :: j :: q) : Int) := by rw [w64i (by omega) (by omega), numR.eq_2 k]; push_cast; rfl
  have e3 : w64 (((q.length + 1 : Nat) : Int) + 1) = (((j :: q).length + 1 : Nat) : Int) := by rw [w64i (by omega) (by simp at hlen; omega)]; simp
  simp only [F83, hu, Option.bind_some, shc_nat, e1, e2, e3]
  rfl
include hn hl hd2 in
theorem bel_R {i : Nat} (hi : i < n) : ∀ (m d : Nat) (j : Nat) (q : List Nat), (∀ x ∈ j :: q, x < 8) → (j :: q).length + d = deep + 1 →
    (F60_R m (n : Int) (deep : Int) order liars lies (mk (j :: q)) (i : Int) = none ∧ m ≤ d) ∨ F60_R m (n : Int) (deep : Int) order liars lies (mk (j :: q)) (i : Int) = some (Bl n order liars lies i d (j :: q))
  | 0, d, j, q, hq, hlen => .inl ⟨rfl, by omega⟩
  | m + 1, d, j, q, hq, hlen => by
    have hs : F60_R (m + 1) (n : Int) (deep : Int) order liars lies (mk (j :: q)) (i : Int) = F60_B (F60_R m) (n : Int) (deep : Int) order liars lies (mk (j :: q)) (i : Int) := rfl
    have ht := told_val (n := n) (deep := deep) (order := order) hl j q i hq (by omega) (by omega)
    have hu : unc (mk (j :: q)) = some ((setR (j :: q), (numR (j :: q) : Int), ((q.length + 1 : Nat) : Int), (j : Int)), mk q) := rfl
    have hw : w64 ((deep : Int) + 1) = ((deep + 1 : Nat) : Int) := by rw [w64i (by omega) (by omega)]; push_cast; rfl
    rw [hs]
    cases d with
    | zero =>
      right
      have e : (((q.length + 1 : Nat) : Int) == ((deep + 1 : Nat) : Int)) = true := by rw [beq_iff_eq]; simp at hlen; omega
      simp only [F60_B, ht, hu, Option.bind_some, hw, e, cond_true, Bl]
    | succ d =>
      have e : (((q.length + 1 : Nat) : Int) == ((deep + 1 : Nat) : Int)) = false := by rw [beq_eq_false_iff_ne]; simp at hlen; omega
      have loop : ∀ (r k : Nat) (x : Int), k + r = n → -(k : Int) - 1 ≤ x → x ≤ k + 1 →
          (whileM (F60_L0 (F60_R m) (n : Int) (deep : Int) order liars lies (mk (j :: q)) (i : Int) (setR (j :: q), (numR (j :: q) : Int), ((q.length + 1 : Nat) : Int), (j : Int))) (x, (k : Int)) = none ∧ m ≤ d) ∨
          whileM (F60_L0 (F60_R m) (n : Int) (deep : Int) order liars lies (mk (j :: q)) (i : Int) (setR (j :: q), (numR (j :: q) : Int), ((q.length + 1 : Nat) : Int), (j : Int))) (x, (k : Int)) =
            some (.brk (sm (fun k => Bl n order liars lies i d (k :: j :: q)) (skp i (j :: q)) r k x)) := by
        intro r
        induction r with
        | zero =>
          intro k x hk h0 h1
          have hd : decide ((k : Int) < (n : Int)) = false := by rw [decide_eq_false_iff_not]; omega
          exact .inr (whileM_brk (by simp only [F60_L0, hd, cond_false, sm]))
        | succ r ih =>
          intro k x hk h0 h1
          have hkn : k < n := by omega
          have hd : decide ((k : Int) < (n : Int)) = true := by rw [decide_eq_true_eq]; omega
          have hsucc := w64_succ hkn (show n ≤ 9223372036854775807 by omega)
          have hb : ((((setR (j :: q)) >>> k) &&& (1#32)) == (1#32)) = decide (k ∈ j :: q) := by rw [and_one, setR_bit hq]; cases decide (k ∈ j :: q) <;> rfl
          have hki : ((k : Int) == (i : Int)) = decide (k = i) := by rw [Bool.eq_iff_iff, beq_iff_eq, decide_eq_true_eq]; omega
          have e22 : (cond (decide (k = i)) (some true) (Option.bind (some k) fun k24 => some ((((setR (j :: q)) >>> k24) &&& (1#32)) == (1#32)))) = some (skp i (j :: q) k) := by
            rw [Option.bind_some, hb]; unfold skp; cases decide (k = i) <;> rfl
          simp only [Option.bind_some] at e22
          have hon := on_val hq (show (j :: q).length ≤ 2 by omega) (show k < 8 by omega)
          rw [sm]
          cases c : skp i (j :: q) k with
          | true =>
            rw [whileM_nxt (s' := (x, ((k + 1 : Nat) : Int))) (by simp only [F60_L0, hd, cond_true, hki, shc_nat, Option.bind_some, e22, c, hsucc])]
            exact ih (k + 1) x (by omega) (by push_cast; omega) (by push_cast; omega)
          | false =>
            have hkm : k ∉ j :: q := by unfold skp at c; simp only [Bool.or_eq_false_iff, decide_eq_false_iff_not] at c; exact c.2
            rcases bel_R hi m d k (j :: q) (fun y hy => by rcases List.mem_cons.1 hy with rfl | hy; omega; exact hq y hy) (by simp at hlen ⊢; omega) with ⟨h, hm⟩ | h
            · left
              refine ⟨whileM_none ?_, hm⟩
              simp only [F60_L0, hd, cond_true, hki, shc_nat, Option.bind_some, e22, c, cond_false, hon, h, Option.bind_none]
            · have e1 : w64 (x + 1) = x + 1 := w64i (by omega) (by omega)
              have e2 : w64 (x - 1) = x - 1 := w64i (by omega) (by omega)
              cases b : Bl n order liars lies i d (k :: j :: q) with
              | true =>
                rw [b] at h
                rw [whileM_nxt (s' := (x + 1, ((k + 1 : Nat) : Int))) (by simp only [F60_L0, hd, cond_true, hki, shc_nat, Option.bind_some, e22, c, cond_false, hon, h, e1, hsucc])]
                simp only [cond_false, cond_true]
                exact ih (k + 1) (x + 1) (by omega) (by push_cast; omega) (by push_cast; omega)
              | false =>
                rw [b] at h
                rw [whileM_nxt (s' := (x - 1, ((k + 1 : Nat) : Int))) (by simp only [F60_L0, hd, cond_true, hki, shc_nat, Option.bind_some, e22, c, cond_false, hon, h, e2, hsucc])]
                simp only [cond_false, cond_true]
                exact ih (k + 1) (x - 1) (by omega) (by push_cast; omega) (by push_cast; omega)
      have e7 : (cond (T order liars lies (j :: q) i) (some (1 : Int)) (some (-1))) = some (cond (T order liars lies (j :: q) i) 1 (-1)) := by cases T order liars lies (j :: q) i <;> rfl
      have hx : -((0 : Nat) : Int) - 1 ≤ (cond (T order liars lies (j :: q) i) (1 : Int) (-1)) ∧ (cond (T order liars lies (j :: q) i) (1 : Int) (-1)) ≤ ((0 : Nat) : Int) + 1 := by cases T order liars lies (j :: q) i <;> simp
      rcases loop n 0 _ (by omega) hx.1 hx.2 with ⟨h, hm⟩ | h
      · left
        refine ⟨?_, by omega⟩
        have h' := h
        simp only [Int.natCast_zero] at h'
        simp only [F60_B, ht, hu, Option.bind_some, hw, e, cond_false, e7]
        rw [show ((0 : Nat) : Int) = 0 from rfl] at h
        rw [h]; rfl
      · right
        rw [show ((0 : Nat) : Int) = 0 from rfl] at h
        simp only [F60_B, ht, hu, Option.bind_some, hw, e, cond_false, e7, h, Ctl.on, Bl]
include hn hl hd2 in
theorem bel_val {i : Nat} (hi : i < n) : F60 (n : Int) (deep : Int) order liars lies (mk [0]) (i : Int) = some (Bl n order liars lies i deep [0]) := by
  have h8 : ∀ x ∈ [0], x < 8 := fun x hx => by simp at hx; omega
  refine fixO_of (f := fun m => F60_R m (n : Int) (deep : Int) order liars lies (mk [0]) (i : Int)) (deep + 1) ?_ ?_
  · rcases bel_R (order := order) hn hl hd2 hi (deep + 1) deep 0 [] h8 (by simp; omega) with ⟨_, h⟩ | h
    · omega
    · exact h
  · intro m r hr
    rcases bel_R (order := order) hn hl hd2 hi m deep 0 [] h8 (by simp; omega) with ⟨h, _⟩ | h
    · have hr' : F60_R m (n : Int) (deep : Int) order liars lies (mk [0]) (i : Int) = some r := hr
      rw [h] at hr'; cases hr'
    · have hr' : F60_R m (n : Int) (deep : Int) order liars lies (mk [0]) (i : Int) = some r := hr
      rw [h] at hr'; exact (Option.some.inj hr').symm
include hn hl hd2 in
theorem ref_R {i : Nat} (hi : i < n) : ∀ (m d : Nat) (j : Nat) (q : List Nat), (∀ x ∈ j :: q, x < 8) → (j :: q).length + d = deep + 1 →
    (F37_R m (n : Int) (deep : Int) order liars lies (om (j :: q).reverse) (i : Int) = none ∧ m ≤ d) ∨ F37_R m (n : Int) (deep : Int) order liars lies (om (j :: q).reverse) (i : Int) = some (Bl n order liars lies i d (j :: q))
  | 0, d, j, q, hq, hlen => .inl ⟨rfl, by omega⟩
  | m + 1, d, j, q, hq, hlen => by
    have hs : F37_R (m + 1) (n : Int) (deep : Int) order liars lies (om (j :: q).reverse) (i : Int) = F37_B (F37_R m) (n : Int) (deep : Int) order liars lies (om (j :: q).reverse) (i : Int) := rfl
    have ht := said_val (order := order) hl j q i hq (by omega) (by omega)
    have hL : (om (j :: q).reverse).length = q.length + 1 := by rw [om_len]; simp
    have hw : w64 ((deep : Int) + 1) = ((deep + 1 : Nat) : Int) := by rw [w64i (by omega) (by omega)]; push_cast; rfl
    rw [hs]
    cases d with
    | zero =>
      right
      have e : ((((om (j :: q).reverse).length : Nat) : Int) == ((deep + 1 : Nat) : Int)) = true := by rw [beq_iff_eq, hL]; simp at hlen; omega
      simp only [F37_B, ht, Option.bind_some, hw, e, cond_true, Bl]
    | succ d =>
      have e : ((((om (j :: q).reverse).length : Nat) : Int) == ((deep + 1 : Nat) : Int)) = false := by rw [beq_eq_false_iff_ne, hL]; simp at hlen; omega
      have hap : ∀ k : Nat, appl 8 ([] : List Int) (om (j :: q).reverse) = some (om (j :: q).reverse) ∧ appl 8 (om (j :: q).reverse) ([(k : Int)] : List Int) = some (om (k :: j :: q).reverse) := fun k => by
        refine ⟨?_, ?_⟩
        · unfold appl; rw [if_pos]; rfl; rw [hL]; simp at hlen ⊢; omega
        · unfold appl; rw [if_pos]; simp [om]; rw [hL]; simp at hlen ⊢; omega
      have loop : ∀ (r k : Nat) (y : Int × Int), k + r = n → 0 ≤ y.1 → y.1 ≤ y.2 → y.2 ≤ k + 1 →
          (whileM (F37_L0 (F37_R m) (n : Int) (deep : Int) order liars lies (om (j :: q).reverse) (i : Int)) (y.1, y.2, (k : Int)) = none ∧ m ≤ d) ∨
          whileM (F37_L0 (F37_R m) (n : Int) (deep : Int) order liars lies (om (j :: q).reverse) (i : Int)) (y.1, y.2, (k : Int)) =
            some (.brk (ya (fun k => Bl n order liars lies i d (k :: j :: q)) (skp i (j :: q)) r k y)) := by
        intro r
        induction r with
        | zero =>
          intro k y hk h0 h1 h2
          have hd : decide ((k : Int) < (n : Int)) = false := by rw [decide_eq_false_iff_not]; omega
          exact .inr (whileM_brk (by simp only [F37_L0, hd, cond_false, ya]))
        | succ r ih =>
          intro k y hk h0 h1 h2
          have hkn : k < n := by omega
          have hd : decide ((k : Int) < (n : Int)) = true := by rw [decide_eq_true_eq]; omega
          have hsucc := w64_succ hkn (show n ≤ 9223372036854775807 by omega)
          have hki : ((k : Int) != (i : Int)) = !decide (k = i) := by rw [Bool.eq_iff_iff, bne_iff_ne, Bool.not_eq_true', decide_eq_false_iff_not]; omega
          have hhas := has_val (j :: q).reverse (by simp at hlen ⊢; omega) k
          have e23 : (cond (!decide (k = i)) (Option.bind (F62 (om (j :: q).reverse) (k : Int)) fun r25 => some (!r25)) (some false)) = some (!skp i (j :: q) k) := by
            rw [hhas, Option.bind_some]; unfold skp
            have : decide (k ∈ (j :: q).reverse) = decide (k ∈ j :: q) := by rw [Bool.eq_iff_iff, decide_eq_true_eq, decide_eq_true_eq, List.mem_reverse]
            rw [this]; cases decide (k = i) <;> cases decide (k ∈ j :: q) <;> rfl
          obtain ⟨a1, a2⟩ := hap k
          rw [ya]
          cases c : skp i (j :: q) k with
          | true =>
            rw [whileM_nxt (s' := (y.1, y.2, ((k + 1 : Nat) : Int))) (by simp only [F37_L0, hd, cond_true, hki, e23, Option.bind_some, c, Bool.not_true, cond_false, hsucc])]
            exact ih (k + 1) y (by omega) h0 h1 (by push_cast; omega)
          | false =>
            have e1 : w64 (y.1 + 1) = y.1 + 1 := w64i (by omega) (by omega)
            have e2 : w64 (y.2 + 1) = y.2 + 1 := w64i (by omega) (by omega)
            rcases ref_R hi m d k (j :: q) (fun z hz => by rcases List.mem_cons.1 hz with rfl | hz; omega; exact hq z hz) (by simp at hlen ⊢; omega) with ⟨h, hm⟩ | h
            · left
              refine ⟨whileM_none ?_, hm⟩
              simp only [F37_L0, hd, cond_true, hki, e23, Option.bind_some, c, Bool.not_false, a1, a2, h, Option.bind_none]
            · cases b : Bl n order liars lies i d (k :: j :: q) with
              | true =>
                rw [b] at h
                rw [whileM_nxt (s' := (y.1 + 1, y.2 + 1, ((k + 1 : Nat) : Int))) (by simp only [F37_L0, hd, cond_true, hki, e23, Option.bind_some, c, Bool.not_false, a1, a2, h, e1, e2, hsucc])]
                simp only [cond_false, cond_true]
                exact ih (k + 1) (y.1 + 1, y.2 + 1) (by omega) (by simp; omega) (by simp; omega) (by push_cast; simp; omega)
              | false =>
                rw [b] at h
                rw [whileM_nxt (s' := (y.1, y.2 + 1, ((k + 1 : Nat) : Int))) (by simp only [F37_L0, hd, cond_true, hki, e23, Option.bind_some, c, Bool.not_false, cond_false, a1, a2, h, e2, hsucc])]
                simp only [cond_false, cond_true]
                exact ih (k + 1) (y.1, y.2 + 1) (by omega) h0 (by simp; omega) (by push_cast; simp; omega)
      have e4 : (cond (T order liars lies (j :: q) i) (some (1 : Int)) (some 0)) = some (cond (T order liars lies (j :: q) i) 1 0) := by cases T order liars lies (j :: q) i <;> rfl
      have hx : 0 ≤ (cond (T order liars lies (j :: q) i) (1 : Int) 0) ∧ (cond (T order liars lies (j :: q) i) (1 : Int) 0) ≤ 1 := by cases T order liars lies (j :: q) i <;> simp
      have hyb := ya_b (fun k => Bl n order liars lies i d (k :: j :: q)) (skp i (j :: q)) n 0 (cond (T order liars lies (j :: q) i) 1 0, 1) hx.1 hx.2
      have hsm := sm_ya (fun k => Bl n order liars lies i d (k :: j :: q)) (skp i (j :: q)) n 0 (cond (T order liars lies (j :: q) i) 1 (-1)) (cond (T order liars lies (j :: q) i) 1 0, 1) (by cases T order liars lies (j :: q) i <;> rfl)
      rcases loop n 0 (cond (T order liars lies (j :: q) i) 1 0, 1) (by omega) hx.1 hx.2 (by simp) with ⟨h, hm⟩ | h
      · left
        refine ⟨?_, by omega⟩
        rw [show ((0 : Nat) : Int) = 0 from rfl] at h
        simp only [F37_B, ht, Option.bind_some, hw, e, cond_false, e4]
        rw [h]; rfl
      · right
        rw [show ((0 : Nat) : Int) = 0 from rfl] at h
        simp only [F37_B, ht, Option.bind_some, hw, e, cond_false, e4, h, Ctl.on, Bl]
        rw [w64i (by omega) (by simp at hyb; omega), hsm]
        congr 1
        rw [Bool.eq_iff_iff, decide_eq_true_eq, decide_eq_true_eq]
        omega
include hn hl hd2 in
theorem ref_val {i : Nat} (hi : i < n) : F37 (n : Int) (deep : Int) order liars lies [0] (i : Int) = some (Bl n order liars lies i deep [0]) := by
  have h8 : ∀ x ∈ [0], x < 8 := fun x hx => by simp at hx; omega
  refine fixO_of (f := fun m => F37_R m (n : Int) (deep : Int) order liars lies [0] (i : Int)) (deep + 1) ?_ ?_
  · rcases ref_R (order := order) hn hl hd2 hi (deep + 1) deep 0 [] h8 (by simp; omega) with ⟨_, h⟩ | h
    · omega
    · exact h
  · intro m r hr
    have hr' : F37_R m (n : Int) (deep : Int) order liars lies (om [0].reverse) (i : Int) = some r := hr
    rcases ref_R (order := order) hn hl hd2 hi m deep 0 [] h8 (by simp; omega) with ⟨h, _⟩ | h
    · rw [h] at hr'; cases hr'
    · rw [h] at hr'; exact (Option.some.inj hr').symm
end
theorem law_GeneralPlays (a0 : Int) (_ : i64 a0) (a1 : Int) (_ : i64 a1) (a2 : Bool) (a3 : BitVec 32) (a4 : List Bool) (h : a4.length ≤ 9223372036854775807) (_ : ∀ x ∈ a4, True) : F12 a0 a1 a2 a3 a4 = some true := by
  unfold F12 F36
  cases c : ((decide (a0 < 1)) || (decide (a0 > 7))) with
  | true => simp
  | false =>
    simp only [Bool.or_eq_false_iff, decide_eq_false_iff_not] at c
    obtain ⟨n, rfl⟩ : ∃ n : Nat, a0 = n := ⟨a0.toNat, by omega⟩
    have hsh : ((a3 >>> n) != 0#32) = decide ((1#32 <<< n) ≤ a3) := shr_ne (by omega)
    have hu : (u64 (n : Int)).toNat = n := u64_nat (by omega)
    simp only [cond_false, hu, shc_nat, Option.bind_some, hsh]
    cases d : ((decide (a1 < 0)) || (decide (a1 > 2))) with
    | true => simp
    | false =>
      simp only [Bool.or_eq_false_iff, decide_eq_false_iff_not] at d
      obtain ⟨deep, rfl⟩ : ∃ m : Nat, a1 = m := ⟨a1.toNat, by omega⟩
      cases e : decide ((1#32 <<< n) ≤ a3) with
      | true => simp
      | false =>
        cases f : ((a3 != (0#32)) && ((a4.length : Int) == 0)) with
        | true => simp
        | false =>
          have hl : ∀ j, j < 8 → a3.getLsbD j = true → a4 ≠ [] := fun j hj hb hn => by
            subst hn
            have : a3 ≠ 0#32 := fun q => by rw [q] at hb; simp at hb
            simp [this] at f
          have hrun : ∀ (r k : Nat) (ys : List Bool), k + 1 + r = n → ys.length = k + 1 → whileM (F36_L0 (n : Int) (deep : Int) a2 a3 a4) (ys, ((k + 1 : Nat) : Int)) = some (.brk (ys ++ (List.range' (k + 1) r).map (fun i => Bl n a2 a3 a4 i deep [0]))) := by
            intro r
            induction r with
            | zero =>
              intro k ys hk hy
              have hd : decide (((k + 1 : Nat) : Int) < (n : Int)) = false := by rw [decide_eq_false_iff_not]; omega
              rw [whileM_brk (s' := ys) (by simp only [F36_L0, hd, cond_false])]; simp
            | succ r ih =>
              intro k ys hk hy
              have hd : decide (((k + 1 : Nat) : Int) < (n : Int)) = true := by rw [decide_eq_true_eq]; omega
              have hb : F60 (n : Int) (deep : Int) a2 a3 a4 ((1#32, 0, 1, 0) :: ([] : List ((BitVec 32) × Int × Int × Int))) ((k + 1 : Nat) : Int) = some (Bl n a2 a3 a4 (k + 1) deep [0]) := bel_val (by omega) hl (by omega) (by omega)
              have ha : ∀ b, appl 1 ys ([b] : List Bool) = some (ys ++ [b]) := fun b => by unfold appl; rw [if_pos]; simp; omega
              rw [whileM_nxt (s' := (ys ++ [Bl n a2 a3 a4 (k + 1) deep [0]], ((k + 1 + 1 : Nat) : Int))) (by simp only [F36_L0, hd, cond_true, hb, Option.bind_some, ha, w64_succ (show k + 1 < n by omega) (show n ≤ 9223372036854775807 by omega)]), ih (k + 1) _ (by omega) (by simp; omega), List.range'_succ]
              simp
          have h1 := hrun (n - 1) 0 [a2] (by omega) rfl
          have h1' : whileM (F36_L0 (n : Int) (deep : Int) a2 a3 a4) (([a2] : List Bool), 1) = _ := h1
          have hlen : (([a2] ++ (List.range' (0 + 1) (n - 1)).map (fun i => Bl n a2 a3 a4 i deep [0])).length : Int) = (n : Int) := by simp; omega
          have hck : ∀ (r k : Nat), k + 1 + r = n → whileM (F12_L0 (n : Int) (deep : Int) a2 a3 a4 ([a2] ++ (List.range' (0 + 1) (n - 1)).map (fun i => Bl n a2 a3 a4 i deep [0]))) ((k + 1 : Nat) : Int) = some (.brk ()) := by
            intro r
            induction r with
            | zero =>
              intro k hk
              have hd : decide (((k + 1 : Nat) : Int) < (n : Int)) = false := by rw [decide_eq_false_iff_not]; omega
              exact whileM_brk (by simp only [F12_L0, hd, cond_false])
            | succ r ih =>
              intro k hk
              have hd : decide (((k + 1 : Nat) : Int) < (n : Int)) = true := by rw [decide_eq_true_eq]; omega
              have hi : idx ([a2] ++ (List.range' (0 + 1) (n - 1)).map (fun i => Bl n a2 a3 a4 i deep [0])) ((k + 1 : Nat) : Int) = some (Bl n a2 a3 a4 (k + 1) deep [0]) := by
                rw [idx_nat, List.getElem?_append_right (by simp)]
                simp [List.getElem?_range', show k < n - 1 by omega, Nat.add_comm]
              have hr := ref_val (n := n) (deep := deep) (order := a2) (liars := a3) (lies := a4) (by omega) hl (by omega) (show k + 1 < n by omega)
              rw [whileM_nxt (s' := ((k + 1 + 1 : Nat) : Int)) (by simp only [F12_L0, hd, cond_true, hi, Option.bind_some, hr, bne_self_eq_false, cond_false, w64_succ (show k + 1 < n by omega) (show n ≤ 9223372036854775807 by omega)])]
              exact ih (k + 1) (by omega)
          have h2 := hck (n - 1) 0 (by omega)
          have h2' : whileM (F12_L0 (n : Int) (deep : Int) a2 a3 a4 ([a2] ++ (List.range' (0 + 1) (n - 1)).map (fun i => Bl n a2 a3 a4 i deep [0]))) 1 = _ := h2
          have h0 : idx ([a2] ++ (List.range' (0 + 1) (n - 1)).map (fun i => Bl n a2 a3 a4 i deep [0])) 0 = some a2 := rfl
          simp only [Bool.or_false, Option.bind_some, cond_false, h1', Ctl.on, hlen, bne_self_eq_false, h0, h2']
end Go.Proofs.Ytdjmlbjkendobaa
