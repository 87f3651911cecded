/-
  The plain law of LeasePlays.
-/
import Derived.Test.YthfkdepcnhhepaaAM
import Derived.Test.YthfkdepcnhhepaaPw
import Derived.Test.YthfkdepcnhhepaaBk6
namespace Go.Proofs.Ythfkdepcnhhepaa
open Go Go.Bk
set_option linter.unusedVariables false
set_option linter.unusedSimpArgs false

abbrev Mv := Int × Int × Int × Int
def vi (y : List Int) (j : Nat) : Int := y.getD j 0
theorem get_vi {y : List Int} {j : Nat} (h : j < y.length) : y[j]? = some (vi y j) := by simp [vi, List.getD_eq_getElem?_getD, List.getElem?_eq_getElem h]
theorem vi_set {y : List Int} {i b : Nat} {v : Int} (hi : i < y.length) : vi (y.set i v) b = if b = i then v else vi y b := by
  unfold vi
  rw [List.getD_eq_getElem?_getD, List.getD_eq_getElem?_getD, List.getElem?_set]
  by_cases c : i = b
  · subst c; simp [hi]
  · have : ¬ b = i := fun e => c e.symm
    simp [c, this]
theorem mulb {a r : Int} (h0 : 0 ≤ a) (h1 : 9 ≤ r) (h2 : r ≤ 11) : 9 * a ≤ a * r ∧ a * r ≤ 11 * a := by
  have x1 : a * 9 ≤ a * r := Int.mul_le_mul_of_nonneg_left h1 h0
  have x2 : a * r ≤ a * 11 := Int.mul_le_mul_of_nonneg_left h2 h0
  omega
theorem w64i {x : Int} (h0 : -9000000000 ≤ x) (h1 : x ≤ 9000000000) : w64 x = x := w64_of (by omega) (by omega)

section
variable {r : List Int} {term : Int}
structure Rt (r : List Int) (term : Int) : Prop where
  n1 : 1 ≤ r.length
  n6 : r.length ≤ 6
  rate : ∀ i, i < r.length → 9 ≤ vi r i ∧ vi r i ≤ 11
  t1 : 1 ≤ term
  t2 : term ≤ 99
/-- What both hold at the same time. -/
structure LR (r : List Int) (term : Int) (k : Nat) (to : Nat) (ago : Int) (y : List Int) (now : Int) : Prop where
  tob : to < r.length
  len : y.length = r.length
  now0 : 0 ≤ now
  now1 : now ≤ 1000 * k
  ago0 : 0 ≤ ago
  ago1 : ago ≤ 1000 * k
  old : ∀ i, 1 ≤ i → i < r.length → i ≠ to → vi y i = -1 ∨ (0 ≤ vi y i ∧ vi y i ≤ now ∧ term ≤ (now - vi y i) * vi r 0)
  cur : 1 ≤ to → 0 ≤ vi y to ∧ vi y to ≤ now ∧ ago = now - vi y to
def kept (r : List Int) (term : Int) (to : Nat) (ago : Int) : Bool := decide (1 ≤ to) && decide (ago * vi r 0 < term)
def held (r : List Int) (term : Int) (to : Nat) (ago : Int) : Bool := decide (1 ≤ to) && decide (ago * vi r to * 11 < term * 9)
theorem f51_val (R : Rt r term) {to : Nat} {ago : Int} (h0 : 0 ≤ ago) (h1 : ago ≤ 100000) : F51 ((to : Int), ago) r term = some (kept r term to ago) := by
  have hr := R.rate 0 (by have := R.n1; omega)
  have hm := mulb h0 hr.1 hr.2
  have i0 : idx r 0 = some (vi r 0) := idx_some (k := 0) (get_vi (by have := R.n1; omega))
  unfold F51 kept
  by_cases c : 1 ≤ to
  · have d : decide ((to : Int) > 0) = true := by rw [decide_eq_true_eq]; omega
    simp only [d, i0, Option.bind_some, cond_true, decide_eq_true c, Bool.true_and]
    rw [w64i (by omega) (by omega)]
  · have d : decide ((to : Int) > 0) = false := by rw [decide_eq_false_iff_not]; omega
    simp only [d, Option.bind_some, cond_false, decide_eq_false c, Bool.false_and]
theorem f52_val (R : Rt r term) {to : Nat} {ago : Int} (ht : to < r.length) (h0 : 0 ≤ ago) (h1 : ago ≤ 100000) : F52 ((to : Int), ago) r term = some (held r term to ago) := by
  have hr := R.rate to ht
  have hm := mulb h0 hr.1 hr.2
  have i0 : idx r (to : Int) = some (vi r to) := idx_some (get_vi ht)
  have ht1 := R.t1
  have ht2 := R.t2
  unfold F52 held
  by_cases c : 1 ≤ to
  · have d : decide ((to : Int) > 0) = true := by rw [decide_eq_true_eq]; omega
    simp only [d, i0, Option.bind_some, cond_true, decide_eq_true c, Bool.true_and]
    rw [w64i (x := ago * vi r to) (by omega) (by omega), w64i (x := ago * vi r to * 11) (by omega) (by omega), w64i (x := term * 9) (by omega) (by omega)]
  · have d : decide ((to : Int) > 0) = false := by rw [decide_eq_false_iff_not]; omega
    simp only [d, Option.bind_some, cond_false, decide_eq_false c, Bool.false_and]
/-- The reference's search for all who hold it. -/
theorem f17_l2 (R : Rt r term) {k to : Nat} {ago now : Int} {y : List Int} (hk : k ≤ 60) (I : LR r term k to ago y now) :
    whileM (F17_L2 r term y now) (0#32, 0#32, 1) = some (.brk (cond (held r term to ago) (1#32 <<< to) 0#32, cond (kept r term to ago) (1#32 <<< to) 0#32)) := by
  have hn1 := R.n1
  have hn6 := R.n6
  have ht1 := R.t1
  have ht2 := R.t2
  have hto := I.tob
  have hlen := I.len
  have i0 : idx r 0 = some (vi r 0) := idx_some (k := 0) (get_vi (by omega))
  have hr0 := R.rate 0 (by omega)
  have hw := while_upto (body := F17_L2 r term y now) (fun m => (cond (held r term to ago && decide (to < m + 1)) (1#32 <<< to) 0#32, cond (kept r term to ago && decide (to < m + 1)) (1#32 <<< to) 0#32, ((m + 1 : Nat) : Int))) (r.length - 1)
    (c := .brk (cond (held r term to ago) (1#32 <<< to) 0#32, cond (kept r term to ago) (1#32 <<< to) 0#32))
    (fun m hm => by
      have hi : m + 1 < r.length := by omega
      have hil : decide (((m + 1 : Nat) : Int) < (r.length : Int)) = true := by rw [decide_eq_true_eq]; omega
      have q1 : idx y ((m + 1 : Nat) : Int) = some (vi y (m + 1)) := idx_some (get_vi (by omega))
      have q2 : idx r ((m + 1 : Nat) : Int) = some (vi r (m + 1)) := idx_some (get_vi hi)
      have hu : (u64 ((m + 1 : Nat) : Int)).toNat = m + 1 := u64_nat (by omega)
      have hri := R.rate (m + 1) hi
      have hwz : w64 (((m + 1 : Nat) : Int) + 1) = ((m + 1 + 1 : Nat) : Int) := w64_succ hi (by omega)
      by_cases e : m + 1 = to
      · obtain ⟨c1, c2, c3⟩ := I.cur (by omega)
        have hd : decide (vi y (m + 1) ≥ 0) = true := by rw [e, decide_eq_true_eq]; omega
        have hx : w64 (now - vi y (m + 1)) = ago := by rw [e, c3]; exact w64i (by have := I.now1; omega) (by have := I.now1; omega)
        have hm1 := mulb I.ago0 hri.1 hri.2
        have hm0 := mulb I.ago0 hr0.1 hr0.2
        have hg := I.ago1
        have y1 : w64 (ago * vi r (m + 1)) = ago * vi r (m + 1) := w64i (by omega) (by omega)
        have y2 : w64 (ago * vi r (m + 1) * 11) = ago * vi r (m + 1) * 11 := w64i (by omega) (by omega)
        have y3 : w64 (term * 9) = term * 9 := w64i (by omega) (by omega)
        have y4 : w64 (ago * vi r 0) = ago * vi r 0 := w64i (by omega) (by omega)
        have z1 : decide (to < m + 1) = false := by rw [decide_eq_false_iff_not]; omega
        have z2 : decide (to < m + 1 + 1) = true := by rw [decide_eq_true_eq]; omega
        have hh : held r term to ago = decide (ago * vi r (m + 1) * 11 < term * 9) := by unfold held; rw [← e]; simp
        have hk' : kept r term to ago = decide (ago * vi r 0 < term) := by unfold kept; rw [← e]; simp
        simp only [F17_L2, q1, q2, hd, hx, y1, y2, y3, y4, i0, hu, hwz, z1, z2, hh, hk', Option.bind_some, hil, cond_true, Bool.and_true, Bool.and_false, cond_false]
        rw [← e]
        cases decide (ago * vi r (m + 1) * 11 < term * 9) <;> cases decide (ago * vi r 0 < term) <;> simp
      · have z : (decide (to < m + 1 + 1)) = decide (to < m + 1) := by rw [decide_eq_decide]; omega
        rw [z]
        rcases I.old (m + 1) (by omega) hi e with c | ⟨c1, c2, c3⟩
        · have hd : decide (vi y (m + 1) ≥ 0) = false := by rw [decide_eq_false_iff_not]; omega
          simp only [F17_L2, q1, hd, hwz, Option.bind_some, hil, cond_true, cond_false]
        · have hd : decide (vi y (m + 1) ≥ 0) = true := by rw [decide_eq_true_eq]; omega
          have hx : w64 (now - vi y (m + 1)) = now - vi y (m + 1) := w64i (by have := I.now1; omega) (by have := I.now1; omega)
          have hnow := I.now1
          have hm1 := mulb (a := now - vi y (m + 1)) (by omega) hri.1 hri.2
          have hm0 := mulb (a := now - vi y (m + 1)) (by omega) hr0.1 hr0.2
          have y1 : w64 ((now - vi y (m + 1)) * vi r (m + 1)) = (now - vi y (m + 1)) * vi r (m + 1) := w64i (by omega) (by omega)
          have y2 : w64 ((now - vi y (m + 1)) * vi r (m + 1) * 11) = (now - vi y (m + 1)) * vi r (m + 1) * 11 := w64i (by omega) (by omega)
          have y3 : w64 (term * 9) = term * 9 := w64i (by omega) (by omega)
          have y4 : w64 ((now - vi y (m + 1)) * vi r 0) = (now - vi y (m + 1)) * vi r 0 := w64i (by omega) (by omega)
          have n1 : decide ((now - vi y (m + 1)) * vi r (m + 1) * 11 < term * 9) = false := by rw [decide_eq_false_iff_not]; omega
          have n2 : decide ((now - vi y (m + 1)) * vi r 0 < term) = false := by rw [decide_eq_false_iff_not]; omega
          simp only [F17_L2, q1, q2, hd, hx, y1, y2, y3, y4, n1, n2, i0, hwz, Option.bind_some, hil, cond_true, cond_false])
    (by
      have hil : decide (((r.length - 1 + 1 : Nat) : Int) < (r.length : Int)) = false := by rw [decide_eq_false_iff_not]; omega
      have z : decide (to < r.length - 1 + 1) = true := by rw [decide_eq_true_eq]; omega
      simp only [F17_L2, hil, cond_false, z, Bool.and_true])
    (by intro s h; cases h)
  have h0 : (held r term to ago && decide (to < 0 + 1)) = false := by
    unfold held
    by_cases c : 1 ≤ to
    · have : ¬ to < 0 + 1 := by omega
      simp [this]
    · simp [c]
  have h1 : (kept r term to ago && decide (to < 0 + 1)) = false := by
    unfold kept
    by_cases c : 1 ≤ to
    · have : ¬ to < 0 + 1 := by omega
      simp [this]
    · simp [c]
  rw [h0, h1] at hw
  exact hw
theorem app8 {α : Type} (b : Nat) (hb : b ≤ 8) (l : List α) (z : α) (h : l.length ≤ 60) : appl b l [z] = some (l ++ [z]) := by
  unfold appl; rw [if_pos]
  refine ⟨?_, by simp; omega⟩
  have : (l.length + [z].length) * b ≤ 61 * 8 := Nat.mul_le_mul (by simp; omega) hb
  omega
/-- The end of a round: what is told of the state that it leaves. -/
theorem tail15 (R : Rt r term) {ms : List Mv} {k to : Nat} {ago now : Int} {y : List Int} (hk : k ≤ 60) (I : LR r term k to ago y now) (b : Bool → Int → Option (BitVec 32)) :
    F52 ((to : Int), ago) r term = some (held r term to ago) ∧ F51 ((to : Int), ago) r term = some (kept r term to ago) := by
  have := I.ago1
  exact ⟨f52_val R I.tob I.ago0 (by omega), f51_val R I.ago0 (by omega)⟩
/-- One move. -/
theorem step_same (R : Rt r term) {ms : List Mv} {k to : Nat} {ago now : Int} {y : List Int} (hk : k < ms.length) (hms : ms.length ≤ 60) (I : LR r term k to ago y now) :
    ∃ (to' : Nat) (ago' now' : Int) (y' : List Int) (c : Int) (h q : BitVec 32), LR r term (k + 1) to' ago' y' now' ∧
      (∀ (c0 : List Int) (h0 q0 : List (BitVec 32)), c0.length = k → h0.length = k → q0.length = k →
        F15_L0 r term ms (c0, h0, q0, (to : Int), ago, (k : Int)) = some (.nxt (c0 ++ [c], h0 ++ [h], q0 ++ [q], (to' : Int), ago', ((k + 1 : Nat) : Int))) ∧
        F17_L1 r term ms (c0, h0, q0, y, now, (to : Int), (k : Int)) = some (.nxt (c0 ++ [c], h0 ++ [h], q0 ++ [q], y', now', (to' : Int), ((k + 1 : Nat) : Int)))) := by
  have hg : ms[k]? = some ms[k] := List.getElem?_eq_getElem hk
  generalize ms[k] = e at hg
  have hkl : decide ((k : Int) < (ms.length : Int)) = true := by simpa using hk
  have hn1 := R.n1
  have hn6 := R.n6
  have hr0 := R.rate 0 (by omega)
  have i0 : idx r 0 = some (vi r 0) := idx_some (k := 0) (get_vi (by omega))
  have hto := I.tob
  have hlen := I.len
  have hnow0 := I.now0
  have hnow1 := I.now1
  have hago0 := I.ago0
  have hago1 := I.ago1
  have hm0 := mulb hago0 hr0.1 hr0.2
  -- what the reference asks first
  have hb71 : (cond (decide ((to : Int) > 0)) (Option.bind (idx y (to : Int)) fun x73 => Option.bind (idx r 0) fun x75 => some (decide ((w64 ((w64 (now - x73)) * x75)) < term))) (some false)) = some (kept r term to ago) := by
    unfold kept
    by_cases c : 1 ≤ to
    · obtain ⟨c1, c2, c3⟩ := I.cur c
      have d : decide ((to : Int) > 0) = true := by rw [decide_eq_true_eq]; omega
      have q1 : idx y (to : Int) = some (vi y to) := idx_some (get_vi (by omega))
      have hx : w64 (now - vi y to) = ago := by rw [c3]; exact w64i (by omega) (by omega)
      have y4 : w64 (ago * vi r 0) = ago * vi r 0 := w64i (by omega) (by omega)
      simp only [d, q1, i0, hx, y4, Option.bind_some, cond_true, decide_eq_true c, Bool.true_and]
    · have d : decide ((to : Int) > 0) = false := by rw [decide_eq_false_iff_not]; omega
      simp only [d, cond_false, decide_eq_false c, Bool.false_and]
  -- from the state behind the move to the end of the round
  have fin : ∀ (to' : Nat) (ago' now' : Int) (y' : List Int) (c : Int), LR r term (k + 1) to' ago' y' now' →
      (∀ (c0 : List Int) (h0 q0 : List (BitVec 32)), F15_L0 r term ms (c0, h0, q0, (to : Int), ago, (k : Int)) =
        (Option.bind (F52 ((to' : Int), ago') r term) fun r72 =>
          Option.bind (α := (BitVec 32)) (cond (r72) (Option.bind (shc (to' : Int)) fun k77 => some ((1#32) <<< k77)) (some (0#32))) fun x74 =>
          Option.bind (F51 ((to' : Int), ago') r term) fun r79 =>
          Option.bind (α := (BitVec 32)) (cond (r79) (Option.bind (shc (to' : Int)) fun k84 => some ((1#32) <<< k84)) (some (0#32))) fun x81 =>
          Option.bind (α := (List Int) × (List (BitVec 32)) × (List (BitVec 32))) (Option.bind (appl 8 c0 ([c] : List Int)) fun (yq86_4_1 : List Int) =>
            Option.bind (appl 4 h0 ([x74] : List (BitVec 32))) fun (yq86_9_1 : List (BitVec 32)) =>
            Option.bind (appl 4 q0 ([x81] : List (BitVec 32))) fun (yq86_14_1 : List (BitVec 32)) => some (yq86_4_1, yq86_9_1, yq86_14_1))
          fun (y87, y89, y91) => some (.nxt (y87, y89, y91, (to' : Int), ago', w64 ((k : Int) + 1))))) →
      (∀ (c0 : List Int) (h0 q0 : List (BitVec 32)), F17_L1 r term ms (c0, h0, q0, y, now, (to : Int), (k : Int)) =
        (Option.bind (whileM (F17_L2 r term y' now') (0#32, 0#32, 1)) fun o102 => Ctl.on o102 (fun (x100, x101) =>
          Option.bind (appl 8 c0 ([c] : List Int)) fun (y133 : List Int) =>
          Option.bind (appl 4 h0 ([x100] : List (BitVec 32))) fun (y139 : List (BitVec 32)) =>
          Option.bind (appl 4 q0 ([x101] : List (BitVec 32))) fun (y145 : List (BitVec 32)) =>
          some (.nxt (y133, y139, y145, y', now', (to' : Int), w64 ((k : Int) + 1)))) (fun _ => none))) →
      ∃ (to' : Nat) (ago' now' : Int) (y' : List Int) (c : Int) (h q : BitVec 32), LR r term (k + 1) to' ago' y' now' ∧
      (∀ (c0 : List Int) (h0 q0 : List (BitVec 32)), c0.length = k → h0.length = k → q0.length = k →
        F15_L0 r term ms (c0, h0, q0, (to : Int), ago, (k : Int)) = some (.nxt (c0 ++ [c], h0 ++ [h], q0 ++ [q], (to' : Int), ago', ((k + 1 : Nat) : Int))) ∧
        F17_L1 r term ms (c0, h0, q0, y, now, (to : Int), (k : Int)) = some (.nxt (c0 ++ [c], h0 ++ [h], q0 ++ [q], y', now', (to' : Int), ((k + 1 : Nat) : Int)))) := by
    intro to' ago' now' y' c J hA hB
    refine ⟨to', ago', now', y', c, cond (held r term to' ago') (1#32 <<< to') 0#32, cond (kept r term to' ago') (1#32 <<< to') 0#32, J, fun c0 h0 q0 l1 l2 l3 => ⟨?_, ?_⟩⟩
    · obtain ⟨t1, t2⟩ := tail15 (ms := ms) R (by omega) J (fun _ _ => none)
      rw [hA, t1, t2]
      have a1 := fun z => app8 8 (by omega) c0 z (by omega)
      have a2 := fun z => app8 4 (by omega) h0 z (by omega)
      have a3 := fun z => app8 4 (by omega) q0 z (by omega)
      simp only [Option.bind_some, shc_nat, w64_succ hk (show ms.length ≤ 9223372036854775807 by omega)]
      cases held r term to' ago' <;> cases kept r term to' ago' <;> simp [a1, a2, a3]
    · rw [hB, f17_l2 R (by omega) J]
      simp only [Option.bind_some, Ctl.on, app8 8 (show 8 ≤ 8 by omega) c0 _ (by omega), app8 4 (show 4 ≤ 8 by omega) h0 _ (show h0.length ≤ 60 by omega), app8 4 (show 4 ≤ 8 by omega) q0 _ (show q0.length ≤ 60 by omega), w64_succ hk (show ms.length ≤ 9223372036854775807 by omega)]
  have Isame : LR r term (k + 1) to ago y now := ⟨hto, hlen, hnow0, by push_cast; omega, hago0, by push_cast; omega, I.old, I.cur⟩
  have h51 := (tail15 (ms := ms) R (by omega) I (fun _ _ => none)).2
  cases b1 : ((e.1 != 1) && (e.1 != 2)) with
  | true =>
    refine fin to ago now y 6 Isame (fun c0 h0 q0 => ?_) (fun c0 h0 q0 => ?_)
    · simp only [F15_L0, idx_some hg, b1, Option.bind_some, hkl, cond_true]
    · simp only [F17_L1, idx_some hg, hb71, b1, Option.bind_some, hkl, cond_true]
  | false =>
    cases b2 : (e.1 == 2) with
    | true =>
      cases b3 : ((decide (e.2.2.2 < 0)) || (decide (e.2.2.2 > 1000))) with
      | true =>
        refine fin to ago now y 4 Isame (fun c0 h0 q0 => ?_) (fun c0 h0 q0 => ?_)
        · simp only [F15_L0, idx_some hg, b1, b2, b3, Option.bind_some, hkl, cond_true, cond_false]
        · simp only [F17_L1, idx_some hg, hb71, b1, b2, b3, Option.bind_some, hkl, cond_true, cond_false]
      | false =>
        have b3' := b3
        simp only [Bool.or_eq_false_iff, decide_eq_false_iff_not] at b3'
        have wa : w64 (ago + e.2.2.2) = ago + e.2.2.2 := w64i (by omega) (by omega)
        have wn : w64 (now + e.2.2.2) = now + e.2.2.2 := w64i (by omega) (by omega)
        refine fin to (ago + e.2.2.2) (now + e.2.2.2) y 0 ⟨hto, hlen, by omega, by push_cast; omega, by omega, by push_cast; omega, fun i h1 h2 h3 => ?_, fun h => ?_⟩ (fun c0 h0 q0 => ?_) (fun c0 h0 q0 => ?_)
        · rcases I.old i h1 h2 h3 with d | ⟨d1, d2, d3⟩
          · exact .inl d
          · refine .inr ⟨d1, by omega, ?_⟩
            have : (now + e.2.2.2 - vi y i) * vi r 0 = (now - vi y i) * vi r 0 + e.2.2.2 * vi r 0 := by rw [← Int.add_mul]; congr 1; omega
            have hp : 0 ≤ e.2.2.2 * vi r 0 := Int.mul_nonneg (by omega) (by omega)
            omega
        · obtain ⟨d1, d2, d3⟩ := I.cur h
          exact ⟨d1, by omega, by omega⟩
        · simp only [F15_L0, idx_some hg, b1, b2, b3, wa, Option.bind_some, hkl, cond_true, cond_false]
        · simp only [F17_L1, idx_some hg, hb71, b1, b2, b3, wn, Option.bind_some, hkl, cond_true, cond_false]
    | false =>
      cases b4 : ((decide (e.2.2.1 < 1)) || (decide (e.2.2.1 ≥ (r.length : Int)))) with
      | true =>
        refine fin to ago now y 2 Isame (fun c0 h0 q0 => ?_) (fun c0 h0 q0 => ?_)
        · simp only [F15_L0, idx_some hg, b1, b2, b4, Option.bind_some, hkl, cond_true, cond_false]
        · simp only [F17_L1, idx_some hg, hb71, b1, b2, b4, Option.bind_some, hkl, cond_true, cond_false]
      | false =>
        have b4' := b4
        simp only [Bool.or_eq_false_iff, decide_eq_false_iff_not] at b4'
        obtain ⟨t, ht⟩ : ∃ t : Nat, e.2.2.1 = t := ⟨e.2.2.1.toNat, by omega⟩
        have ht1 : 1 ≤ t := by omega
        have htn : t < r.length := by omega
        cases b5 : (kept r term to ago && ((to : Int) != e.2.2.1)) with
        | true =>
          have b5' : (kept r term to ago && (e.2.2.1 != (to : Int))) = true := by rw [bne_comm]; exact b5
          refine fin to ago now y 7 Isame (fun c0 h0 q0 => ?_) (fun c0 h0 q0 => ?_)
          · simp only [F15_L0, idx_some hg, b1, b2, b4, h51, b5, Option.bind_some, hkl, cond_true, cond_false]
          · simp only [F17_L1, idx_some hg, hb71, b1, b2, b4, b5', Option.bind_some, hkl, cond_true, cond_false]
        | false =>
          have b5' : (kept r term to ago && (e.2.2.1 != (to : Int))) = false := by rw [bne_comm]; exact b5
          have qy : idx y e.2.2.1 = some (vi y t) := by rw [ht]; exact idx_some (get_vi (by omega))
          have htt : e.2.2.1.toNat = t := by omega
          have hs : ∀ i, vi (y.set t now) i = if i = t then now else vi y i := fun i => vi_set (by omega)
          refine fin t 0 now (y.set t now) 0 ⟨htn, by simpa using hlen, hnow0, by push_cast; omega, by omega, by push_cast; omega, fun i h1 h2 h3 => ?_, fun h => ?_⟩ (fun c0 h0 q0 => ?_) (fun c0 h0 q0 => ?_)
          · rw [hs i, if_neg h3]
            by_cases c : i = to
            · subst c
              obtain ⟨d1, d2, d3⟩ := I.cur h1
              refine .inr ⟨d1, d2, ?_⟩
              have hne : ((i : Int) != e.2.2.1) = true := by rw [ht, bne_iff_ne]; omega
              rw [hne, Bool.and_true] at b5
              unfold kept at b5
              rw [decide_eq_true h1, Bool.true_and, decide_eq_false_iff_not] at b5
              rw [← d3]; omega
            · exact I.old i h1 h2 c
          · rw [hs t, if_pos rfl]; omega
          · simp only [F15_L0, idx_some hg, b1, b2, b4, h51, b5, Option.bind_some, hkl, cond_true, cond_false]
            rw [ht]
          · simp only [F17_L1, idx_some hg, hb71, b1, b2, b4, b5', qy, htt, Option.bind_some, hkl, cond_true, cond_false]
            rw [ht]
theorem plays_same (R : Rt r term) {ms : List Mv} (hms : ms.length ≤ 60) : ∀ (d k to : Nat) (ago now : Int) (y : List Int) (c0 : List Int) (h0 q0 : List (BitVec 32)), k + d = ms.length → LR r term k to ago y now → c0.length = k → h0.length = k → q0.length = k →
    ∃ (c : List Int) (h q : List (BitVec 32)) (u v : Int) (z : List Int), whileM (F15_L0 r term ms) (c0, h0, q0, (to : Int), ago, (k : Int)) = some (.brk (c, h, q, u, v)) ∧ whileM (F17_L1 r term ms) (c0, h0, q0, y, now, (to : Int), (k : Int)) = some (.brk (c, h, q, z)) ∧ c.length = ms.length ∧ h.length = ms.length ∧ q.length = ms.length := by
  intro d
  induction d with
  | zero =>
    intro k to ago now y c0 h0 q0 hk I l1 l2 l3
    have hkl : decide ((k : Int) < (ms.length : Int)) = false := by rw [decide_eq_false_iff_not]; omega
    have b1 : F15_L0 r term ms (c0, h0, q0, (to : Int), ago, (k : Int)) = some (.brk (c0, h0, q0, (to : Int), ago)) := by simp only [F15_L0, hkl, cond_false]
    have b2 : F17_L1 r term ms (c0, h0, q0, y, now, (to : Int), (k : Int)) = some (.brk (c0, h0, q0, y)) := by simp only [F17_L1, hkl, cond_false]
    exact ⟨c0, h0, q0, _, _, _, whileM_brk b1, whileM_brk b2, by omega, by omega, by omega⟩
  | succ d ih =>
    intro k to ago now y c0 h0 q0 hk I l1 l2 l3
    obtain ⟨to', ago', now', y', c, h, q, J, hs⟩ := step_same R (ms := ms) (by omega) hms I
    obtain ⟨s1, s2⟩ := hs c0 h0 q0 l1 l2 l3
    rw [whileM_nxt s1, whileM_nxt s2]
    exact ih (k + 1) to' ago' now' y' _ _ _ (by omega) J (by simp; omega) (by simp; omega) (by simp; omega)
end
theorem f49_val (l : List Int) (hl : l.length ≤ 9223372036854775807) : F49 l (fun z => F50 z) = some (l.any (fun z => (decide (z < 9)) || (decide (z > 11)))) := by
  have hw : whileM (F87_L0 l (fun z => F50 z)) 0 = some (found () (scan (fun k e => if ((decide (e < 9)) || (decide (e > 11))) = true then some (k : Int) else none) l 0)) := by
    refine while_scan hl _ (fun k e h => ?_) (by simp [F87_L0])
    have hk := lt_of_get h
    have hkl : decide ((k : Int) < (l.length : Int)) = true := by simpa using hk
    simp only [F87_L0, idx_some h, F50, Option.bind_some, hkl, cond_true]
    cases ((decide (e < 9)) || (decide (e > 11))) <;> simp [going]
  unfold F49 F87
  rw [hw]
  cases x : scan (fun k e => if ((decide (e < 9)) || (decide (e > 11))) = true then some (k : Int) else none) l 0 with
  | none =>
    have : l.any (fun z => (decide (z < 9)) || (decide (z > 11))) = false := by
      rw [List.any_eq_false]
      intro e he
      obtain ⟨i, hi⟩ := List.getElem?_of_mem he
      have := scan_none.1 x i e hi
      intro hc; rw [if_pos hc] at this; cases this
    rw [this]; simp [found, Ctl.on]
  | some rr =>
    obtain ⟨i, e, hi, he⟩ := scan_val x
    cases c : ((decide (e < 9)) || (decide (e > 11))) with
    | false => rw [c] at he; simp at he
    | true =>
      rw [c] at he; simp at he; subst he
      have : l.any (fun z => (decide (z < 9)) || (decide (z > 11))) = true := List.any_eq_true.2 ⟨e, List.mem_of_getElem? hi, c⟩
      rw [this]; simp [found, Ctl.on]
theorem f16_l0 (l : List Int) (hl : l.length ≤ 9223372036854775807) (x : Int) : whileM (F16_L0 l) (x, 0) = some (.brk (cond ((x == 0) && l.any (fun z => (decide (z < 9)) || (decide (z > 11)))) 4 x)) := by
  have hw := while_upto (body := F16_L0 l) (fun k => (cond ((x == 0) && (l.take k).any (fun z => (decide (z < 9)) || (decide (z > 11)))) 4 x, (k : Int))) l.length (c := .brk (cond ((x == 0) && l.any (fun z => (decide (z < 9)) || (decide (z > 11)))) 4 x))
    (fun k hk => by
      have hg : l[k]? = some l[k] := List.getElem?_eq_getElem hk
      have hkl : decide ((k : Int) < (l.length : Int)) = true := by simpa using hk
      have hn : (l.take (k + 1)).any (fun z => (decide (z < 9)) || (decide (z > 11))) = ((l.take k).any (fun z => (decide (z < 9)) || (decide (z > 11))) || ((decide (l[k] < 9)) || (decide (l[k] > 11)))) := by
        rw [List.take_add_one, hg, List.any_append]; simp
      rw [hn]
      generalize (l.take k).any (fun z => (decide (z < 9)) || (decide (z > 11))) = z
      simp only [F16_L0, idx_some hg, Option.bind_some, hkl, cond_true, w64_succ hk hl]
      cases hx : (x == 0) with
      | false =>
        have hx' : (x == 0) = false := hx
        simp only [Bool.false_and, cond_false, hx']
        simp
      | true =>
        have hx0 : x = 0 := by simpa using hx
        subst hx0
        cases z <;> cases ((decide (l[k] < 9)) || (decide (l[k] > 11))) <;> simp)
    (by simp [F16_L0]) (by intro s h; cases h)
  have h0 : cond ((x == 0) && (l.take 0).any (fun z => (decide (z < 9)) || (decide (z > 11)))) 4 x = x := by simp
  rw [h0] at hw
  exact hw
theorem codes_self (l : List Int) (hl : l.length ≤ 9223372036854775807) : F18 l l = some true := by
  have h : whileM (F18_L0 l l) 0 = some (found () (scan (fun _ (_ : Int) => (none : Option Bool)) l 0)) := by
    refine while_scan hl _ (fun k e h => ?_) (by simp [F18_L0])
    have hk := lt_of_get h
    simp [F18_L0, idx_some h, hk, going]
  have hn : scan (fun _ (_ : Int) => (none : Option Bool)) l 0 = none := scan_none.2 fun _ _ _ => rfl
  unfold F18
  rw [h, hn]
  simp [found, Ctl.on]
theorem words_self (l : List (BitVec 32)) (hl : l.length ≤ 9223372036854775807) : F19 l l = some true := by
  have h : whileM (F19_L0 l l) 0 = some (found () (scan (fun _ (_ : BitVec 32) => (none : Option Bool)) l 0)) := by
    refine while_scan hl _ (fun k e h => ?_) (by simp [F19_L0])
    have hk := lt_of_get h
    simp [F19_L0, idx_some h, hk, going]
  have hn : scan (fun _ (_ : BitVec 32) => (none : Option Bool)) l 0 = none := scan_none.2 fun _ _ _ => rfl
  unfold F19
  rw [h, hn]
  simp [found, Ctl.on]
theorem f17_l0 (r : List Int) (h : r.length ≤ 9223372036854775807) : whileM (F17_L0 r) (List.replicate r.length 0, 0) = some (.brk (List.replicate r.length (-1))) := by
  have hw := while_upto (body := F17_L0 r) (fun k => (List.replicate k (-1) ++ List.replicate (r.length - k) 0, (k : Int))) r.length (c := .brk (List.replicate r.length (-1)))
    (fun k hk => by
      have hkl : decide ((k : Int) < (r.length : Int)) = true := by simpa using hk
      have q : (List.replicate k (-1 : Int) ++ List.replicate (r.length - k) 0)[k]? = some 0 := by
        rw [List.getElem?_append_right (by simp), List.length_replicate, Nat.sub_self, List.getElem?_replicate, if_pos (by omega)]
      have hset : (List.replicate k (-1 : Int) ++ List.replicate (r.length - k) 0).set k (-1) = List.replicate (k + 1) (-1) ++ List.replicate (r.length - (k + 1)) 0 := by
        obtain ⟨m, hm⟩ : ∃ m, r.length - k = m + 1 := ⟨r.length - k - 1, by omega⟩
        rw [hm, List.replicate_succ, List.set_append_right _ _ (by simp)]
        have : r.length - (k + 1) = m := by omega
        rw [this]
        simp [List.replicate_succ', List.append_assoc]
      simp only [F17_L0, idx_some q, Option.bind_some, hkl, cond_true, w64_succ hk h, Int.toNat_natCast, hset])
    (by simp [F17_L0]) (by intro s h; cases h)
  simpa using hw
theorem law_LeasePlays (a0 : List Int) (h : a0.length ≤ 9223372036854775807) (_ : ∀ x ∈ a0, i64 x) (a1 : Int) (_ : i64 a1) (a2 : List Mv) (h2 : a2.length ≤ 9223372036854775807) (_ : ∀ x ∈ a2, i64 x.1 ∧ i64 x.2.1 ∧ i64 x.2.2.1 ∧ i64 x.2.2.2) : F3 a0 a1 a2 = some true := by
  have n18 : F18 [] [] = some true := codes_self [] (by simp)
  have n19 : F19 [] [] = some true := words_self [] (by simp)
  unfold F3 F15 F16 F21
  rw [f49_val a0 h]
  cases c : (((decide ((a0.length : Int) < 1)) || (decide ((a0.length : Int) > 6))) || (decide ((a2.length : Int) > 60))) with
  | true =>
    simp only [Option.bind_some, cond_true, f16_l0 a0 h, Ctl.on]
    simp [n18, n19]
  | false =>
    simp only [Option.bind_some, cond_false, f16_l0 a0 h, Ctl.on]
    simp only [Bool.or_eq_false_iff, decide_eq_false_iff_not] at c
    cases d : a0.any (fun z => (decide (z < 9)) || (decide (z > 11))) with
    | true => simp [n18, n19]
    | false =>
      cases t : ((decide (a1 < 1)) || (decide (a1 > 99))) with
      | true =>
        have t' : (decide (a1 < 1) || decide (a1 > 99)) = true := t
        simp only [Bool.or_eq_true, decide_eq_true_eq] at t'
        rcases t' with t' | t' <;> simp [t', n18, n19]
      | false =>
        simp only [Bool.or_eq_false_iff, decide_eq_false_iff_not] at t
        have R : Rt a0 a1 := ⟨by omega, by omega, fun i hi => by
          have := List.any_eq_false.1 d (vi a0 i) (List.mem_of_getElem? (get_vi hi))
          simp only [Bool.or_eq_true, decide_eq_true_eq, not_or] at this
          omega, by omega, by omega⟩
        have hrep : ∀ i, i < a0.length → vi (List.replicate a0.length (-1)) i = -1 := fun i hi => by
          unfold vi; rw [List.getD_eq_getElem?_getD, List.getElem?_replicate]; simp [hi]
        have I0 : LR a0 a1 0 0 0 (List.replicate a0.length (-1)) 0 := ⟨by omega, by simp, by omega, by omega, by omega, by omega, fun i h1 h2 h3 => .inl (hrep i h2), fun h => by omega⟩
        obtain ⟨cs, hs, qs, u, v, z, w1, w2, l1, l2, l3⟩ := plays_same R (ms := a2) (by omega) a2.length 0 0 0 0 _ [] [] [] (by omega) I0 rfl rfl rfl
        have w1' : whileM (F15_L0 a0 a1 a2) ([], [], [], 0, 0, 0) = _ := w1
        have w2' : whileM (F17_L1 a0 a1 a2) ([], [], [], List.replicate a0.length (-1), 0, 0, 0) = _ := w2
        have hm : mkl (a0.length : Int) 8 (0 : Int) = some (List.replicate a0.length 0) := by unfold mkl; rw [if_pos ⟨by omega, by omega, by omega⟩]; simp
        have t1 : decide (a1 < 1) = false := by rw [decide_eq_false_iff_not]; omega
        have t2 : decide (a1 > 99) = false := by rw [decide_eq_false_iff_not]; omega
        have h17 : F17 a0 a1 a2 = some (cs, hs, qs) := by
          unfold F17
          simp only [hm, Option.bind_some, f17_l0 a0 h, Ctl.on, w2']
        simp only [w1', h17, t1, t2, Option.bind_some, Ctl.on, Bool.or_false, Bool.and_false, cond_false, cond_true, beq_self_eq_true, codes_self cs (by omega), words_self hs (by omega), words_self qs (by omega)]
end Go.Proofs.Ythfkdepcnhhepaa
