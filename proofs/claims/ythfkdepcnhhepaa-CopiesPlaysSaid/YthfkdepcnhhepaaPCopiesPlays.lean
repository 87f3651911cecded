/-
  The plain law of CopiesPlays.
-/
import Derived.Test.YthfkdepcnhhepaaDM
import Derived.Test.YthfkdepcnhhepaaEM
import Derived.Test.YthfkdepcnhhepaaPw
import Derived.Test.YthfkdepcnhhepaaBk6
namespace Go.Proofs.Ythfkdepcnhhepaa
open Go Go.Bk
set_option linter.unusedVariables false
set_option linter.unusedSimpArgs false

abbrev Mv := Int × Int × Int × Int
abbrev Cl := Int × Int × Bool × Int × (BitVec 32) × Int × Int × Int
abbrev Op5 := Int × Int × Int × Bool × Int
def ge {α : Type} (d : α) (l : List α) (j : Nat) : α := l.getD j d
theorem get_ge {α : Type} (d : α) {l : List α} {j : Nat} (h : j < l.length) : l[j]? = some (ge d l j) := by simp [ge, List.getD_eq_getElem?_getD, List.getElem?_eq_getElem h]
theorem idx_ge {α : Type} (d : α) {l : List α} {j : Nat} (h : j < l.length) : idx l (j : Int) = some (ge d l j) := idx_some (get_ge d h)
theorem ge_set {α : Type} {d : α} {l : List α} {i b : Nat} {v : α} (hi : i < l.length) : ge d (l.set i v) b = if b = i then v else ge d l b := by
  unfold ge
  rw [List.getD_eq_getElem?_getD, List.getD_eq_getElem?_getD, List.getElem?_set]
  by_cases c : i = b
  · subst c; simp [hi]
  · have : ¬ b = i := fun e => c e.symm
    simp [c, this]
theorem ge_rep {α : Type} (d v : α) {n i : Nat} (h : i < n) : ge d (List.replicate n v) i = v := by
  unfold ge; rw [List.getD_eq_getElem?_getD, List.getElem?_replicate]; simp [h]
theorem w64i {x : Int} (h0 : -9000000000 ≤ x) (h1 : x ≤ 9000000000) : w64 x = x := w64_of (by omega) (by omega)
theorem app1 {α : Type} (b : Nat) (hb : b ≤ 40) (l : List α) (z : α) (h : l.length ≤ 60) : appl b l [z] = some (l ++ [z]) := by
  unfold appl; rw [if_pos]
  simp
  have : (l.length + 1) * b ≤ 61 * 40 := Nat.mul_le_mul (by omega) hb
  omega
def ci (z : T6 Cl) (b : Nat) : Cl := (tl6 z).getD b (0, 0, false, 0, 0, 0, 0, 0)
theorem idx_ci (z : T6 Cl) {b : Nat} (h : b < 6) : idx (tl6 z) (b : Int) = some (ci z b) := by
  have : b < (tl6 z).length := h
  exact idx_some (by simp [ci, List.getD_eq_getElem?_getD, List.getElem?_eq_getElem this])
theorem as_ci (z : T6 Cl) {b : Nat} (h : b < 6) (y : Cl) : ∃ z', as6 z (b : Int) y = some z' ∧ ∀ c, ci z' c = if c = b then y else ci z c := by
  refine ⟨ts6 z b y, ?_, fun c => ?_⟩
  · unfold as6; rw [if_pos ⟨by omega, by omega⟩]; simp
  · unfold ci
    rw [tl6_set, List.getD_eq_getElem?_getD, List.getD_eq_getElem?_getD, List.getElem?_set]
    have hl : b < (tl6 z).length := h
    by_cases e : b = c
    · subst e; simp [hl]
    · have : ¬ c = b := fun q => e q.symm
      simp [e, this]
theorem has_val (l : List Int) (hl : l.length ≤ 1000) (a : Int) : F66 l a = some (decide (a ∈ l)) := by
  have h : whileM (F66_L0 l a) 0 = some (found () (cond (l.any (fun e => a == e)) (some true) none)) := by
    rw [← scan_any (k := 0)]
    refine while_scan (by omega) _ (fun k e h => ?_) (by simp [F66_L0])
    have hk := lt_of_get h
    have hd : decide ((k : Int) < (l.length : Int)) = true := by rw [decide_eq_true_eq]; omega
    cases c : (a == e) <;> (simp only [F66_L0, idx_some h, hd, c, going, Option.bind_some, cond_true, cond_false]; simp)
  have e : l.any (fun e => a == e) = decide (a ∈ l) := by
    rw [Bool.eq_iff_iff, List.any_eq_true, decide_eq_true_eq]
    constructor
    · rintro ⟨x, hx, e⟩; rw [beq_iff_eq] at e; rw [e]; exact hx
    · intro h; exact ⟨a, h, by simp⟩
  unfold F66
  rw [h, e]
  cases c : decide (a ∈ l) <;> simp [found, Ctl.on]

/-! The least stamp above. -/
def abv (s i : Int) : Int := if s - s % 6 + i ≤ s then s - s % 6 + i + 6 else s - s % 6 + i
theorem abv_spec {s i : Int} (hi : 0 ≤ i ∧ i < 6) : s < abv s i ∧ abv s i ≤ s + 6 ∧ abv s i % 6 = i ∧ ∀ t, s < t → t < abv s i → t % 6 ≠ i := by
  unfold abv
  split
  · refine ⟨by omega, by omega, by omega, fun t h1 h2 h3 => by omega⟩
  · refine ⟨by omega, by omega, by omega, fun t h1 h2 h3 => by omega⟩
theorem above_val {s i : Int} (h0 : 0 ≤ s) (h1 : s ≤ 1000000) (hi : 0 ≤ i ∧ i < 6) : F133 s i = some (abv s i) := by
  unfold F133 abv
  rw [Int.tmod_eq_emod_of_nonneg h0, w64i (x := s - s % 6) (by omega) (by omega), w64i (x := s - s % 6 + i) (by omega) (by omega), w64i (x := s - s % 6 + i + 6) (by omega) (by omega)]
  by_cases c : s - s % 6 + i ≤ s
  · rw [if_pos c, decide_eq_true c]; rfl
  · rw [if_neg c, decide_eq_false c]; rfl
theorem climb_val {s : Int} {x : Mv} (h0 : 0 ≤ s) (h1 : s ≤ 1000000) (hi : 0 ≤ x.2.1 ∧ x.2.1 < 6) : whileM (F34_L1 x) (s + 1) = some (.brk (abv s x.2.1)) := by
  obtain ⟨p1, p2, p3, p4⟩ := abv_spec (s := s) hi
  have key : ∀ m : Nat, ∀ t : Int, s < t → t + (m : Int) = abv s x.2.1 → whileM (F34_L1 x) t = some (.brk (abv s x.2.1)) := by
    intro m
    induction m with
    | zero =>
      intro t ht e
      obtain rfl : t = abv s x.2.1 := by omega
      have hb : (((abv s x.2.1).tmod 6) != x.2.1) = false := by rw [Int.tmod_eq_emod_of_nonneg (by omega), p3]; simp
      exact whileM_brk (by simp only [F34_L1, hb, cond_false])
    | succ m ih =>
      intro t ht e
      have hb : ((t.tmod 6) != x.2.1) = true := by rw [Int.tmod_eq_emod_of_nonneg (by omega), bne_iff_ne]; exact p4 t ht (by omega)
      rw [whileM_nxt (s' := t + 1) (by simp only [F34_L1, hb, cond_true]; rw [w64i (by omega) (by omega)])]
      exact ih (t + 1) (by omega) (by omega)
  exact key (abv s x.2.1 - (s + 1)).toNat (s + 1) (by omega) (by omega)

/-! What both hold after k moves. -/
abbrev gi (l : List Int) (j : Nat) : Int := ge 0 l j
abbrev gO (l : List Op5) (j : Nat) : Op5 := ge (0, 0, 0, false, 0) l j
abbrev gR (l : List (List Int)) (j : Nat) : List Int := ge [] l j
abbrev gL (l : List (Int × Int)) (j : Nat) : Int × Int := ge (0, 0) l j
abbrev gF (l : List Bool) (j : Nat) : Bool := ge false l j
structure Inv (n k : Nat) (L : List (Int × Int)) (fw : BitVec 32) (z : T6 Cl) (ops : List Op5) (V S : List Int) (Rc : List (List Int)) (O : List Op5) (Pt : List Int) (F : List Bool) (Sm Vm : List Int) : Prop where
  ll : L.length = n
  lv : V.length = 6
  ls : S.length = 6
  lr : Rc.length = 6
  lo : O.length = 6
  lp : Pt.length = 6
  lf : F.length = n
  lsm : Sm.length = n
  lvm : Vm.length = n
  lop : ops.length ≤ k
  cp : ∀ j, j < n → gL L j = (gi Sm j, gi Vm j)
  fl : ∀ j, j < n → fw.getLsbD j = gF F j
  pt : ∀ c, c < 6 → (ci z c).1 = gi Pt c ∧ 0 ≤ gi Pt c ∧ gi Pt c ≤ 2
  act : ∀ c, c < 6 → gi Pt c ≠ 0 → ci z c = (gi Pt c, (gO O c).2.1, (gO O c).2.2.2.1, (gO O c).2.2.2.2, (ci z c).2.2.2.2.1, ((gR Rc c).length : Int), gi S c, gi V c) ∧ (gO O c).1 = (c : Int) ∧
    ∀ j, j < n → ((ci z c).2.2.2.2.1.getLsbD j = true ↔ (j : Int) ∈ gR Rc c)
  len : ∀ c, c < 6 → (gR Rc c).length ≤ k
  st : ∀ c, c < 6 → 0 ≤ gi S c ∧ gi S c ≤ 6 * (k : Int)
  sm : ∀ j, j < n → 0 ≤ gi Sm j ∧ gi Sm j ≤ 6 * (k : Int)
section
variable {n k : Nat} {L : List (Int × Int)} {fw : BitVec 32} {z z' : T6 Cl} {ops : List Op5} {V S : List Int} {Rc : List (List Int)} {O : List Op5} {Pt : List Int} {F : List Bool} {Sm Vm : List Int}
theorem Inv.up (h : Inv n k L fw z ops V S Rc O Pt F Sm Vm) : Inv n (k + 1) L fw z ops V S Rc O Pt F Sm Vm :=
  { h with
    lop := by have := h.lop; omega
    len := fun c hc => by have := h.len c hc; omega
    st := fun c hc => by have := h.st c hc; push_cast; omega
    sm := fun j hj => by have := h.sm j hj; push_cast; omega }
/-- A copy fails. -/
theorem Inv.fail (h : Inv n k L fw z ops V S Rc O Pt F Sm Vm) {j : Nat} (hj : j < n) (hn : n ≤ 6) : Inv n (k + 1) L (fw ||| (1#32 <<< j)) z ops V S Rc O Pt (F.set j true) Sm Vm :=
  { h.up with
    lf := by rw [List.length_set]; exact h.lf
    fl := fun i hi => by
      rw [BitVec.getLsbD_or, bit_one (by omega), gF, ge_set (by rw [h.lf]; exact hj), h.fl i hi]
      by_cases e : i = j
      · simp [e]
      · simp [e] }
/-- A client begins. -/
theorem Inv.opened (h : Inv n k L fw z ops V S Rc O Pt F Sm Vm) {c : Nat} (hc : c < 6) (b : Int) (w : Bool) (x e0 : Int)
    (hz : ∀ d, ci z' d = if d = c then (1, b, w, x, 0#32, 0, 0, 0) else ci z d) :
    Inv n (k + 1) L fw z' ops (V.set c 0) (S.set c 0) (Rc.set c []) (O.set c ((c : Int), b, e0, w, x)) (Pt.set c 1) F Sm Vm := by
  have hv : c < V.length := by rw [h.lv]; exact hc
  have hs : c < S.length := by rw [h.ls]; exact hc
  have hr : c < Rc.length := by rw [h.lr]; exact hc
  have ho : c < O.length := by rw [h.lo]; exact hc
  have hp : c < Pt.length := by rw [h.lp]; exact hc
  refine { h.up with lv := by rw [List.length_set]; exact h.lv, ls := by rw [List.length_set]; exact h.ls, lr := by rw [List.length_set]; exact h.lr, lo := by rw [List.length_set]; exact h.lo, lp := by rw [List.length_set]; exact h.lp, pt := ?_, act := ?_, len := ?_, st := ?_ }
  · intro d hd
    rw [hz d, gi, ge_set hp]
    by_cases e : d = c
    · rw [if_pos e, if_pos e]; exact ⟨rfl, by omega, by omega⟩
    · rw [if_neg e, if_neg e]; exact h.pt d hd
  · intro d hd hne
    rw [hz d]
    simp only [gi, gO, gR, ge_set hv, ge_set hs, ge_set hr, ge_set ho, ge_set hp] at hne ⊢
    by_cases e : d = c
    · subst e
      simp only [if_pos rfl]
      exact ⟨by simp, by simp, fun j hj => by simp⟩
    · simp only [if_neg e] at hne ⊢
      exact h.act d hd hne
  · intro d hd
    rw [gR, ge_set hr]
    by_cases e : d = c
    · rw [if_pos e]; simp
    · rw [if_neg e]; exact h.up.len d hd
  · intro d hd
    show 0 ≤ gi (S.set c 0) d ∧ gi (S.set c 0) d ≤ 6 * ((k + 1 : Nat) : Int)
    by_cases e : d = c
    · have e2 : gi (S.set c 0) d = 0 := by simp only [gi, ge_set hs, if_pos e]
      rw [e2]; exact ⟨Int.le_refl _, by omega⟩
    · have e2 : gi (S.set c 0) d = gi S d := by simp only [gi, ge_set hs, if_neg e]
      rw [e2]; exact h.up.st d hd
/-- A client's turn. -/
theorem Inv.turn (h : Inv n k L fw z ops V S Rc O Pt F Sm Vm) {c : Nat} (hc : c < 6) {L' : List (Int × Int)} {Sm' Vm' : List Int} {ops' : List Op5} (hL : L'.length = n) (hSm : Sm'.length = n) (hVm : Vm'.length = n)
    (hcp : ∀ j, j < n → gL L' j = (gi Sm' j, gi Vm' j)) (hsm : ∀ j, j < n → 0 ≤ gi Sm' j ∧ gi Sm' j ≤ 6 * ((k + 1 : Nat) : Int)) (hop : ops'.length ≤ k + 1) {y : Cl} {p s v : Int} {r : List Int} {o : Op5}
    (hz : ∀ d, ci z' d = if d = c then y else ci z d) (hp : y.1 = p ∧ 0 ≤ p ∧ p ≤ 2)
    (hy : p ≠ 0 → y = (p, o.2.1, o.2.2.2.1, o.2.2.2.2, y.2.2.2.2.1, (r.length : Int), s, v) ∧ o.1 = (c : Int) ∧ ∀ j, j < n → (y.2.2.2.2.1.getLsbD j = true ↔ (j : Int) ∈ r)) (hr : r.length ≤ k + 1) (hs : 0 ≤ s ∧ s ≤ 6 * ((k + 1 : Nat) : Int)) :
    Inv n (k + 1) L' fw z' ops' (V.set c v) (S.set c s) (Rc.set c r) (O.set c o) (Pt.set c p) F Sm' Vm' := by
  have kv : c < V.length := by rw [h.lv]; exact hc
  have ks : c < S.length := by rw [h.ls]; exact hc
  have kr : c < Rc.length := by rw [h.lr]; exact hc
  have ko : c < O.length := by rw [h.lo]; exact hc
  have kp : c < Pt.length := by rw [h.lp]; exact hc
  have ePt : ∀ d, gi (Pt.set c p) d = if d = c then p else gi Pt d := fun d => by rw [gi, ge_set kp]
  have eS : ∀ d, gi (S.set c s) d = if d = c then s else gi S d := fun d => by rw [gi, ge_set ks]
  have eV : ∀ d, gi (V.set c v) d = if d = c then v else gi V d := fun d => by rw [gi, ge_set kv]
  have eR : ∀ d, gR (Rc.set c r) d = if d = c then r else gR Rc d := fun d => by rw [gR, ge_set kr]
  have eO : ∀ d, gO (O.set c o) d = if d = c then o else gO O d := fun d => by rw [gO, ge_set ko]
  refine ⟨hL, by rw [List.length_set]; exact h.lv, by rw [List.length_set]; exact h.ls, by rw [List.length_set]; exact h.lr, by rw [List.length_set]; exact h.lo, by rw [List.length_set]; exact h.lp, h.lf, hSm, hVm, hop, hcp, h.fl, ?_, ?_, ?_, ?_, hsm⟩
  · intro d hd
    rw [hz d, ePt d]
    by_cases e : d = c
    · simp only [if_pos e]; exact hp
    · simp only [if_neg e]; exact h.pt d hd
  · intro d hd hne
    rw [ePt d] at hne
    rw [hz d, ePt d, eS d, eV d, eR d, eO d]
    by_cases e : d = c
    · subst e
      simp only [if_pos rfl] at hne ⊢
      exact hy hne
    · simp only [if_neg e] at hne ⊢
      exact h.act d hd hne
  · intro d hd
    rw [eR d]
    by_cases e : d = c
    · rw [if_pos e]; exact hr
    · rw [if_neg e]; exact h.up.len d hd
  · intro d hd
    rw [eS d]
    by_cases e : d = c
    · simp only [if_pos e]; exact hs
    · simp only [if_neg e]; exact h.up.st d hd
end

theorem okArg2 {c : Nat} (hc : c < 6) : (decide ((c : Int) < 0)) = false ∧ (decide ((c : Int) ≥ 6)) = false ∧ (decide ((c : Int) ≥ 0)) = true ∧ (decide ((c : Int) < 6)) = true := by
  refine ⟨?_, ?_, ?_, ?_⟩ <;> simp <;> omega
/-! One move. -/
theorem ci_ts (z : T6 Cl) {b : Nat} (h : b < 6) (y : Cl) (c : Nat) : ci (ts6 z b y) c = if c = b then y else ci z c := by
  unfold ci
  rw [tl6_set, List.getD_eq_getElem?_getD, List.getD_eq_getElem?_getD, List.getElem?_set]
  have hl : b < (tl6 z).length := h
  by_cases e : b = c
  · subst e; simp [hl]
  · have : ¬ c = b := fun q => e q.symm
    simp [e, this]
theorem ci_same (z : T6 Cl) {b : Nat} (h : b < 6) (y : Cl) : ci (ts6 z b y) b = y := by rw [ci_ts z h, if_pos rfl]
theorem as6_nat (z : T6 Cl) {b : Nat} (h : b < 6) (y : Cl) : as6 z (b : Int) y = some (ts6 z b y) := by
  unfold as6; rw [if_pos ⟨by omega, by omega⟩]; simp
theorem set_ge {α : Type} {d : α} {l : List α} {i : Nat} {v : α} (hi : i < l.length) (h : ge d l i = v) : l.set i v = l := by
  apply List.ext_getElem?
  intro j
  rw [List.getElem?_set]
  by_cases e : i = j
  · subst e; rw [if_pos rfl, if_pos hi, ← h, get_ge d hi]
  · rw [if_neg e]
theorem bitT (w : BitVec 32) (k : Nat) : (((w >>> k) &&& (1#32)) == (1#32)) = w.getLsbD k := by
  rw [and_one]; cases w.getLsbD k <;> rfl
theorem idx_setG {α : Type} (d : α) {l : List α} {j : Nat} (h : j < l.length) (v : α) : idx (l.set j v) (j : Int) = some v := idx_some (by rw [List.getElem?_set_self h])
section
variable {n k : Nat} {l : List Mv} {L : List (Int × Int)} {fw : BitVec 32} {z z' : T6 Cl} {ops : List Op5} {V S : List Int} {Rc : List (List Int)} {O : List Op5} {Pt : List Int} {F : List Bool} {Sm Vm : List Int} {x : Mv}
/-- What a round of both comes to. -/
def Both (n k : Nat) (l : List Mv) (L : List (Int × Int)) (fw : BitVec 32) (z : T6 Cl) (ops : List Op5) (V S : List Int) (Rc : List (List Int)) (O : List Op5) (Pt : List Int) (F : List Bool) (Sm Vm : List Int) (x : Mv) : Prop :=
  ∃ (e : Int) (L' : List (Int × Int)) (fw' : BitVec 32) (z' : T6 Cl) (ops' : List Op5) (V' S' : List Int) (Rc' : List (List Int)) (O' : List Op5) (Pt' : List Int) (F' : List Bool) (Sm' Vm' : List Int),
    F67 (L, fw, z, ops) x (k : Int) = some (e, (L', fw', z', ops')) ∧
    (∀ cs : List Int, cs.length ≤ 60 → F34_L0 (n : Int) l (cs, ops, V, S, Rc, O, Pt, F, Sm, Vm, (k : Int)) = some (.nxt (cs ++ [e], ops', V', S', Rc', O', Pt', F', Sm', Vm', ((k + 1 : Nat) : Int)))) ∧
    Inv n (k + 1) L' fw' z' ops' V' S' Rc' O' Pt' F' Sm' Vm'
variable (h : Inv n k L fw z ops V S Rc O Pt F Sm Vm) (hn : n ≤ 6) (hk : l[k]? = some x) (hl : l.length ≤ 60)
include h hn hk hl
set_option linter.unusedSectionVars false
theorem kd : decide ((k : Int) < (l.length : Int)) = true := by rw [decide_eq_true_eq]; have := lt_of_get hk; omega
theorem ks : w64 ((k : Int) + 1) = ((k + 1 : Nat) : Int) := w64_succ (lt_of_get hk) (by omega)
theorem wrongKind (c : (decide (x.1 < 1) || decide (x.1 > 3)) = true) : Both n k l L fw z ops V S Rc O Pt F Sm Vm x := by
  refine ⟨6, L, fw, z, ops, V, S, Rc, O, Pt, F, Sm, Vm, by simp only [F67, c, cond_true], fun cs hcs => ?_, h.up⟩
  simp only [F34_L0, kd h hn hk hl, idx_some hk, c, cond_true, Option.bind_some, app1 8 (by decide) cs 6 hcs, ks h hn hk hl]
theorem wrongArg (c : (decide (x.1 < 1) || decide (x.1 > 3)) = false) (c1 : (((x.1 != 3) && ((decide (x.2.1 < 0)) || (decide (x.2.1 ≥ 6)))) || ((x.1 != 1) && ((decide (x.2.2.1 < 0)) || (decide (x.2.2.1 ≥ (n : Int)))))) = true) : Both n k l L fw z ops V S Rc O Pt F Sm Vm x := by
  have c2 : ((((x.1 != 3) && (!((decide (x.2.1 ≥ 0)) && (decide (x.2.1 < 6))))) || ((x.1 != 1) && (!((decide (x.2.2.1 ≥ 0)) && (decide (x.2.2.1 < (L.length : Int)))))))) = true := by
    rw [h.ll, ← c1]
    have e1 : (!((decide (x.2.1 ≥ 0)) && (decide (x.2.1 < 6)))) = ((decide (x.2.1 < 0)) || (decide (x.2.1 ≥ 6))) := by
      rw [Bool.eq_iff_iff]; simp <;> omega
    have e2 : (!((decide (x.2.2.1 ≥ 0)) && (decide (x.2.2.1 < (n : Int))))) = ((decide (x.2.2.1 < 0)) || (decide (x.2.2.1 ≥ (n : Int)))) := by
      rw [Bool.eq_iff_iff]; simp <;> omega
    rw [e1, e2]
  refine ⟨2, L, fw, z, ops, V, S, Rc, O, Pt, F, Sm, Vm, by simp only [F67, c, c2, cond_true, cond_false], fun cs hcs => ?_, h.up⟩
  simp only [F34_L0, kd h hn hk hl, idx_some hk, c, c1, cond_true, cond_false, Option.bind_some, app1 8 (by decide) cs 2 hcs, ks h hn hk hl]
theorem failing {a b : Int} {j : Nat} (hx : x = (3, a, (j : Int), b)) (hj : j < n) : Both n k l L fw z ops V S Rc O Pt F Sm Vm x := by
  subst hx
  have f1 := lt_of_get hk
  have f2 : j < L.length := by rw [h.ll]; exact hj
  have f3 : ¬ n ≤ j := by omega
  have q1 : (decide ((j : Int) < 0)) = false := by simp
  have q2 : (decide ((j : Int) ≥ (n : Int))) = false := by simp; omega
  have q3 : (decide ((j : Int) ≥ 0)) = true := by simp
  have q4 : (decide ((j : Int) < (L.length : Int))) = true := by rw [h.ll]; simp; omega
  have hjF : j < F.length := by rw [h.lf]; exact hj
  have i1 := idx_ge false hjF
  have i2 := h.fl j hj
  cases c : gF F j with
  | true =>
    have i3 : idx F (j : Int) = some true := by rw [i1]; exact congrArg some c
    refine ⟨7, L, fw, z, ops, V, S, Rc, O, Pt, F, Sm, Vm, ?_, fun cs hcs => ?_, h.up⟩
    · simp [F67, f1, f2, f3, q3, q4, shc_nat, bitT, i2, c]
    · have e : F.set j true = F := set_ge hjF c
      simp [F34_L0, f1, f2, f3, kd h hn hk hl, idx_some hk, q1, q2, i3, app1 8 (by decide) cs 7 hcs, ks h hn hk hl, e]
  | false =>
    have i3 : idx F (j : Int) = some false := by rw [i1]; exact congrArg some c
    refine ⟨0, L, fw ||| (1#32 <<< j), z, ops, V, S, Rc, O, Pt, F.set j true, Sm, Vm, ?_, fun cs hcs => ?_, h.fail hj hn⟩
    · simp [F67, f1, f2, f3, q3, q4, shc_nat, bitT, i2, c]
    · simp [F34_L0, f1, f2, f3, kd h hn hk hl, idx_some hk, q1, q2, i3, app1 8 (by decide) cs 0 hcs, ks h hn hk hl]
/-- It is held up: it works, or does not. -/
theorem held {q b : Int} {c : Nat} {j : Int} (hx : x = (q, (c : Int), j, b)) (hc : c < 6) (hq : (q = 1 ∧ gi Pt c ≠ 0) ∨ (q = 2 ∧ 0 ≤ j ∧ j < (n : Int) ∧ gi Pt c = 0)) : Both n k l L fw z ops V S Rc O Pt F Sm Vm x := by
  subst hx
  have f1 := lt_of_get hk
  obtain ⟨a1, a2, a3, a4⟩ := okArg2 hc
  have hp := h.pt c hc
  have i1 := idx_ge (0 : Int) (l := Pt) (j := c) (by rw [h.lp]; exact hc)
  have i2 : ge (0 : Int) Pt c = gi Pt c := rfl
  refine ⟨7, L, fw, z, ops, V, S, Rc, O, Pt, F, Sm, Vm, ?_, fun cs hcs => ?_, h.up⟩
  · rcases hq with ⟨rfl, hne⟩ | ⟨rfl, j0, j1, he⟩
    · have e : decide ((ci z c).1 > 0) = true := by rw [hp.1]; simp; omega
      simp [F67, f1,  a3, a4, idx_ci z hc, e]
    · have e : decide ((ci z c).1 > 0) = false := by rw [hp.1, he]; simp
      have e2 : decide (j ≥ 0) = true := by simp; omega
      have e3 : decide (j < (L.length : Int)) = true := by rw [h.ll]; simp; omega
      simp [F67, f1,  a3, a4, e2, e3, idx_ci z hc, e]
  · rcases hq with ⟨rfl, hne⟩ | ⟨rfl, j0, j1, he⟩
    · have e : decide (gi Pt c > 0) = true := by simp; omega
      simp [F34_L0, f1,  kd h hn hk hl, idx_some hk, a1, a2, i1, i2, e, app1 8 (by decide) cs 7 hcs, ks h hn hk hl]
    · have e2 : decide (j < 0) = false := by simp; omega
      have e3 : decide (j ≥ (n : Int)) = false := by simp; omega
      simp [F34_L0, f1,  kd h hn hk hl, idx_some hk, a1, a2, e2, e3, i1, i2, he, app1 8 (by decide) cs 7 hcs, ks h hn hk hl]
theorem opening {b : Int} {c : Nat} {j : Int} (hx : x = (1, (c : Int), j, b)) (hc : c < 6) (hp0 : gi Pt c = 0) : Both n k l L fw z ops V S Rc O Pt F Sm Vm x := by
  subst hx
  have f1 := lt_of_get hk
  obtain ⟨a1, a2, a3, a4⟩ := okArg2 hc
  have hp := h.pt c hc
  have i1 := idx_ge (0 : Int) (l := Pt) (j := c) (by rw [h.lp]; exact hc)
  have i2 : ge (0 : Int) Pt c = gi Pt c := rfl
  have i3 := idx_ge ([] : List Int) (l := Rc) (j := c) (by rw [h.lr]; exact hc)
  have i4 := idx_ge (0 : Int) (l := S) (j := c) (by rw [h.ls]; exact hc)
  have i5 := idx_ge (0 : Int) (l := V) (j := c) (by rw [h.lv]; exact hc)
  have i6 := idx_ge ((0, 0, 0, false, 0) : Op5) (l := O) (j := c) (by rw [h.lo]; exact hc)
  have hoc : c < O.length := by rw [h.lo]; exact hc
  have i7 := fun v => idx_setG ((0, 0, 0, false, 0) : Op5) hoc v
  have e : decide ((ci z c).1 > 0) = false := by rw [hp.1, hp0]; simp
  have emx : mx b 0 = if b > 0 then b else 0 := by unfold mx; split <;> split <;> omega
  refine ⟨0, L, fw, ts6 z c (1, (k : Int), decide (b ≥ 0), mx b 0, 0#32, 0, 0, 0), ops, V.set c 0, S.set c 0, Rc.set c [], O.set c ((c : Int), (k : Int), 0, decide (b ≥ 0), mx b 0), Pt.set c 1, F, Sm, Vm, ?_, fun cs hcs => ?_, h.opened hc (k : Int) (decide (b ≥ 0)) (mx b 0) 0 fun d => ?_⟩
  · simp [F67, f1,  F99, a3, a4, idx_ci z hc, e, as6_nat z hc]
  · by_cases hb : b > 0
    · have hb' : decide (b > 0) = true := by simpa using hb
      simp [F34_L0, f1,  kd h hn hk hl, idx_some hk, a1, a2, i1, i2, i3, i4, i5, i6, i7, hp0, hb', emx, hb, app1 8 (by decide) cs 0 hcs, ks h hn hk hl]
    · have hb' : decide (b > 0) = false := by simpa using hb
      simp [F34_L0, f1,  kd h hn hk hl, idx_some hk, a1, a2, i1, i2, i3, i4, i5, i6, i7, hp0, hb', emx, hb, app1 8 (by decide) cs 0 hcs, ks h hn hk hl]
  · rw [ci_ts z hc]
/-- It does not reach the copy: it has already, or that one failed. -/
theorem missing {b : Int} {c j : Nat} (hx : x = (2, (c : Int), (j : Int), b)) (hc : c < 6) (hj : j < n) (hp0 : gi Pt c ≠ 0) (hm : ((ci z c).2.2.2.2.1.getLsbD j = true) ∨ gF F j = true) : Both n k l L fw z ops V S Rc O Pt F Sm Vm x := by
  subst hx
  have f1 := lt_of_get hk
  have f2 : j < L.length := by rw [h.ll]; exact hj
  have f3 : ¬ n ≤ j := by omega
  obtain ⟨a1, a2, a3, a4⟩ := okArg2 hc
  have hp := h.pt c hc
  have q1 : (decide ((j : Int) < 0)) = false := by simp
  have q2 : (decide ((j : Int) ≥ (n : Int))) = false := by simp; omega
  have q3 : (decide ((j : Int) ≥ 0)) = true := by simp
  have q4 : (decide ((j : Int) < (L.length : Int))) = true := by rw [h.ll]; simp; omega
  have i1 := idx_ge (0 : Int) (l := Pt) (j := c) (by rw [h.lp]; exact hc)
  have i2 : ge (0 : Int) Pt c = gi Pt c := rfl
  have i3 := idx_ge ([] : List Int) (l := Rc) (j := c) (by rw [h.lr]; exact hc)
  have i4 := idx_ge false (l := F) (j := j) (by rw [h.lf]; exact hj)
  have e : decide ((ci z c).1 > 0) = true := by rw [hp.1]; simp; omega
  have e5 : decide (gi Pt c > 0) = true := by simp; omega
  have e6 : (gi Pt c == 0) = false := by simpa using hp0
  have hf := h.fl j hj
  have hact := (h.act c hc hp0).2.2 j hj
  have hhas := has_val (ge [] Rc c) (by have := h.len c hc; have := lt_of_get hk; simp only [gR] at *; omega) (j : Int)
  by_cases hb : (ci z c).2.2.2.2.1.getLsbD j = true
  · have hin : decide ((j : Int) ∈ ge [] Rc c) = true := by rw [decide_eq_true_eq]; exact hact.1 hb
    rw [hin] at hhas
    refine ⟨8, L, fw, z, ops, V, S, Rc, O, Pt, F, Sm, Vm, ?_, fun cs hcs => ?_, h.up⟩
    · simp [F67, f1, f2, f3, a3, a4, q3, q4, idx_ci z hc, e, shc_nat, bitT, hb]
    · simp [F34_L0, e6, f1, f2, f3, kd h hn hk hl, idx_some hk, a1, a2, q1, q2, i1, i2, i3, i4, hp0, hhas, app1 8 (by decide) cs 8 hcs, ks h hn hk hl]
  · have hb' : (ci z c).2.2.2.2.1.getLsbD j = false := by simpa using hb
    have hin : decide ((j : Int) ∈ ge [] Rc c) = false := by rw [decide_eq_false_iff_not]; exact fun q => hb (hact.2 q)
    rw [hin] at hhas
    have hF : gF F j = true := hm.resolve_left hb
    have hF2 : ge false F j = true := hF
    rw [hF] at hf
    refine ⟨5, L, fw, z, ops, V, S, Rc, O, Pt, F, Sm, Vm, ?_, fun cs hcs => ?_, h.up⟩
    · simp [F67, f1, f2, f3, a3, a4, q3, q4, idx_ci z hc, e, shc_nat, bitT, hb', hf]
    · simp [F34_L0, e6, f1, f2, f3, kd h hn hk hl, idx_some hk, a1, a2, q1, q2, i1, i2, i3, i4, hp0, hhas, hF2, app1 8 (by decide) cs 5 hcs, ks h hn hk hl]
end

/-! A client reaches a copy. -/
theorem ts_ts (z : T6 Cl) {b : Nat} (h : b < 6) (y y' : Cl) : ts6 (ts6 z b y) b y' = ts6 z b y' := by
  have : b = 0 ∨ b = 1 ∨ b = 2 ∨ b = 3 ∨ b = 4 ∨ b = 5 := by omega
  rcases this with rfl | rfl | rfl | rfl | rfl | rfl <;> rfl
section
variable {n k c j : Nat} {L : List (Int × Int)} {z : T6 Cl} {ops : List Op5} {bg xv m s v : Int} {w : Bool} {rb : BitVec 32}
theorem reach1 (hc : c < 6) (hj : j < L.length) (hl : L.length ≤ 6) (hy : ci z c = (1, bg, w, xv, rb, m, s, v)) (hm : 0 ≤ m ∧ m ≤ 60) (hs : 0 ≤ s ∧ s ≤ 1000) (hs2 : 0 ≤ (gL L j).1 ∧ (gL L j).1 ≤ 1000) :
    F100 (L, z, ops) (c : Int) (j : Int) (k : Int) = some (L, ts6 z c (if 2 * (m + 1) ≤ (L.length : Int) then (1, bg, w, xv, rb ||| (1#32 <<< j), m + 1, if (gL L j).1 > s then gL L j else (s, v))
      else if w = true then (2, bg, w, xv, 0#32, 0, abv (if (gL L j).1 > s then (gL L j).1 else s) (c : Int), xv) else (2, bg, w, xv, 0#32, 0, if (gL L j).1 > s then gL L j else (s, v))), ops) := by
  have i1 := idx_ge ((0, 0) : Int × Int) hj
  have i2 : ge ((0, 0) : Int × Int) L j = gL L j := rfl
  have w1 : w64 (m + 1) = m + 1 := w64i (by omega) (by omega)
  have w2 : w64 (2 * (m + 1)) = 2 * (m + 1) := w64i (by omega) (by omega)
  have v1 := above_val (s := (gL L j).1) (i := (c : Int)) (by omega) (by omega) (by omega)
  have v2 := above_val (s := s) (i := (c : Int)) (by omega) (by omega) (by omega)
  by_cases c1 : s < (gL L j).1
  · by_cases c2 : 2 * (m + 1) ≤ (L.length : Int)
    · simp [F100, idx_ci _ hc, as6_nat _ hc, ci_same _ hc, ts_ts _ hc, hy, i1, i2, w1, w2, shc_nat, c1, c2]
    · cases w <;> simp [F100, idx_ci _ hc, as6_nat _ hc, ci_same _ hc, ts_ts _ hc, hy, i1, i2, w1, w2, shc_nat, c1, c2, v1]
  · by_cases c2 : 2 * (m + 1) ≤ (L.length : Int)
    · simp [F100, idx_ci _ hc, as6_nat _ hc, ci_same _ hc, ts_ts _ hc, hy, i1, i2, w1, w2, shc_nat, c1, c2]
    · cases w <;> simp [F100, idx_ci _ hc, as6_nat _ hc, ci_same _ hc, ts_ts _ hc, hy, i1, i2, w1, w2, shc_nat, c1, c2, v2]
theorem reach2 (hc : c < 6) (hj : j < L.length) (hl : L.length ≤ 6) (hy : ci z c = (2, bg, w, xv, rb, m, s, v)) (hm : 0 ≤ m ∧ m ≤ 60) (ho : ops.length ≤ 60) :
    F100 (L, z, ops) (c : Int) (j : Int) (k : Int) = some (if s > (gL L j).1 then L.set j (s, v) else L, ts6 z c (if 2 * (m + 1) ≤ (L.length : Int) then (2, bg, w, xv, rb ||| (1#32 <<< j), m + 1, s, v)
      else (0, bg, w, xv, 0#32, 0, s, v)), if 2 * (m + 1) ≤ (L.length : Int) then ops else ops ++ [((c : Int), bg, (k : Int), w, v)]) := by
  have i1 := idx_ge ((0, 0) : Int × Int) hj
  have i2 : ge ((0, 0) : Int × Int) L j = gL L j := rfl
  have w1 : w64 (m + 1) = m + 1 := w64i (by omega) (by omega)
  have w2 : w64 (2 * (m + 1)) = 2 * (m + 1) := w64i (by omega) (by omega)
  have a1 := app1 40 (by decide) ops ((c : Int), bg, (k : Int), w, v) ho
  by_cases c1 : (gL L j).1 < s
  · by_cases c2 : 2 * (m + 1) ≤ (L.length : Int)
    · simp [F100, idx_ci _ hc, as6_nat _ hc, ci_same _ hc, ts_ts _ hc, hy, i1, i2, w1, w2, shc_nat, c1, c2]
    · simp [F100, idx_ci _ hc, as6_nat _ hc, ci_same _ hc, ts_ts _ hc, hy, i1, i2, w1, w2, shc_nat, c1, c2, a1]
  · by_cases c2 : 2 * (m + 1) ≤ (L.length : Int)
    · simp [F100, idx_ci _ hc, as6_nat _ hc, ci_same _ hc, ts_ts _ hc, hy, i1, i2, w1, w2, shc_nat, c1, c2]
    · simp [F100, idx_ci _ hc, as6_nat _ hc, ci_same _ hc, ts_ts _ hc, hy, i1, i2, w1, w2, shc_nat, c1, c2, a1]
theorem bit_app {rb : BitVec 32} {r : List Int} {j : Nat} (hj : j < 32) (h : ∀ i, i < n → (rb.getLsbD i = true ↔ (i : Int) ∈ r)) : ∀ i, i < n → ((rb ||| (1#32 <<< j)).getLsbD i = true ↔ (i : Int) ∈ r ++ [(j : Int)]) := fun i hi => by
  rw [BitVec.getLsbD_or, bit_one hj, Bool.or_eq_true, h i hi, List.mem_append, List.mem_singleton, decide_eq_true_eq]
  exact or_congr Iff.rfl (by omega)
end
section
variable {n k : Nat} {l : List Mv} {L : List (Int × Int)} {fw : BitVec 32} {z z' : T6 Cl} {ops : List Op5} {V S : List Int} {Rc : List (List Int)} {O : List Op5} {Pt : List Int} {F : List Bool} {Sm Vm : List Int} {x : Mv} {b : Int} {c j : Nat} {cs : List Int}
variable (h : Inv n k L fw z ops V S Rc O Pt F Sm Vm) (hn : n ≤ 6) (hk : l[k]? = some (2, (c : Int), (j : Int), b)) (hl : l.length ≤ 60) (hc : c < 6) (hj : j < n) (hF : gF F j = false) (hR : (j : Int) ∉ gR Rc c) (hcs : cs.length ≤ 60)
include h hn hk hl hc hj hF hR hcs
set_option linter.unusedSectionVars false
set_option maxHeartbeats 1000000 in
theorem ref1 (hp : gi Pt c = 1) : F34_L0 (n : Int) l (cs, ops, V, S, Rc, O, Pt, F, Sm, Vm, (k : Int)) = some (.nxt (
    if (n : Int) < (((gR Rc c).length : Int) + 1) * 2 then
      (if (gO O c).2.2.2.1 = true then (cs ++ [0], ops, V.set c (gO O c).2.2.2.2, S.set c (abv (if gi S c < gi Sm j then gi Sm j else gi S c) (c : Int)), Rc.set c [], O, Pt.set c 2, F, Sm, Vm, ((k + 1 : Nat) : Int))
       else (cs ++ [0], ops, V.set c (if gi S c < gi Sm j then gi Vm j else gi V c), S.set c (if gi S c < gi Sm j then gi Sm j else gi S c), Rc.set c [], O, Pt.set c 2, F, Sm, Vm, ((k + 1 : Nat) : Int)))
    else (cs ++ [0], ops, V.set c (if gi S c < gi Sm j then gi Vm j else gi V c), S.set c (if gi S c < gi Sm j then gi Sm j else gi S c), Rc.set c (gR Rc c ++ [(j : Int)]), O, Pt, F, Sm, Vm, ((k + 1 : Nat) : Int)))) := by
  obtain ⟨a1, a2, a3, a4⟩ := okArg2 hc
  have f1 := lt_of_get hk
  have f3 : ¬ n ≤ j := by omega
  have q1 : (decide ((j : Int) < 0)) = false := by simp
  have kv : c < V.length := by rw [h.lv]; exact hc
  have kS : c < S.length := by rw [h.ls]; exact hc
  have kr : c < Rc.length := by rw [h.lr]; exact hc
  have i1 := idx_ge (0 : Int) (l := Pt) (j := c) (by rw [h.lp]; exact hc)
  have i3 := idx_ge ([] : List Int) kr
  have i4 := idx_ge false (l := F) (j := j) (by rw [h.lf]; exact hj)
  have i5 := idx_ge (0 : Int) (l := Sm) (j := j) (by rw [h.lsm]; exact hj)
  have i6 := idx_ge (0 : Int) (l := Vm) (j := j) (by rw [h.lvm]; exact hj)
  have i7 := idx_ge (0 : Int) kS
  have i8 := idx_ge (0 : Int) kv
  have i9 := idx_ge ((0, 0, 0, false, 0) : Op5) (l := O) (j := c) (by rw [h.lo]; exact hc)
  have iS := fun v => idx_setG (0 : Int) kS v
  have iV := fun v => idx_setG (0 : Int) kv v
  have iR := fun v => idx_setG ([] : List Int) kr v
  have hlen := h.len c hc
  have hhas := has_val (ge [] Rc c) (by have : (ge [] Rc c).length ≤ k := hlen; omega) (j : Int)
  rw [decide_eq_false (show ¬ (j : Int) ∈ ge [] Rc c from hR)] at hhas
  have ap := app1 8 (by decide) (ge [] Rc c) (j : Int) (by have : (ge [] Rc c).length ≤ k := hlen; omega)
  have aq := app1 8 (by decide) cs 0 hcs
  have hw1 : w64 ((((ge [] Rc c).length : Int) + 1) * 2) = (((ge [] Rc c).length : Int) + 1) * 2 := w64i (by omega) (by have : (ge [] Rc c).length ≤ k := hlen; omega)
  have kk : w64 ((k : Int) + 1) = (k : Int) + 1 := w64i (by omega) (by omega)
  have sS := set_ge kS (rfl : ge (0 : Int) S c = ge 0 S c)
  have sV := set_ge kv (rfl : ge (0 : Int) V c = ge 0 V c)
  have st := h.st c hc
  have sm := h.sm j hj
  have kb : (k : Int) ≤ 60 := by omega
  have wS : w64 (ge 0 S c + 1) = ge 0 S c + 1 := w64i (by have : 0 ≤ ge 0 S c := st.1; omega) (by have : ge 0 S c ≤ 6 * (k : Int) := st.2; omega)
  have wM : w64 (ge 0 Sm j + 1) = ge 0 Sm j + 1 := w64i (by have : 0 ≤ ge 0 Sm j := sm.1; omega) (by have : ge 0 Sm j ≤ 6 * (k : Int) := sm.2; omega)
  have cS := climb_val (s := ge 0 S c) (x := (2, (c : Int), (j : Int), b)) st.1 (by have : ge 0 S c ≤ 6 * (k : Int) := st.2; omega) ⟨by show (0 : Int) ≤ c; omega, by show (c : Int) < 6; omega⟩
  have cM := climb_val (s := ge 0 Sm j) (x := (2, (c : Int), (j : Int), b)) sm.1 (by have : ge 0 Sm j ≤ 6 * (k : Int) := sm.2; omega) ⟨by show (0 : Int) ≤ c; omega, by show (c : Int) < 6; omega⟩
  have hF2 : ge false F j = false := hF
  have hp2 : ge 0 Pt c = 1 := hp
  simp only [gi, gR, gO] at *
  by_cases c1 : ge 0 S c < ge 0 Sm j
  · by_cases c2 : (n : Int) < (((ge [] Rc c).length : Int) + 1) * 2
    · cases c3 : (ge ((0, 0, 0, false, 0) : Op5) O c).2.2.2.1 <;>
        simp [F34_L0, kk, f1, f3, idx_some hk, a1, a2, q1, i1, i3, i4, i5, i6, i7, i8, i9, iS, iV, iR, hhas, ap, aq, hw1, hp2, hF2, c1, c2, c3, wM, cM, List.set_set, Ctl.on]
    · simp [F34_L0, kk, f1, f3, idx_some hk, a1, a2, q1, i1, i3, i4, i5, i6, i7, i8, i9, iS, iV, iR, hhas, ap, aq, hw1, hp2, hF2, c1, c2, List.set_set]
  · by_cases c2 : (n : Int) < (((ge [] Rc c).length : Int) + 1) * 2
    · cases c3 : (ge ((0, 0, 0, false, 0) : Op5) O c).2.2.2.1 <;>
        simp [F34_L0, kk, f1, f3, idx_some hk, a1, a2, q1, i1, i3, i4, i5, i6, i7, i8, i9, iS, iV, iR, hhas, ap, aq, hw1, hp2, hF2, c1, c2, c3, wS, cS, List.set_set, sS, sV, Ctl.on]
    · simp [F34_L0, kk, f1, f3, idx_some hk, a1, a2, q1, i1, i3, i4, i5, i6, i7, i8, i9, iS, iV, iR, hhas, ap, aq, hw1, hp2, hF2, c1, c2, List.set_set, sS, sV]
set_option maxHeartbeats 1000000 in
theorem ref2 (hp : gi Pt c = 2) : F34_L0 (n : Int) l (cs, ops, V, S, Rc, O, Pt, F, Sm, Vm, (k : Int)) = some (.nxt (
    if (n : Int) < (((gR Rc c).length : Int) + 1) * 2 then
      (cs ++ [0], ops ++ [((gO O c).1, (gO O c).2.1, (k : Int), (gO O c).2.2.2.1, gi V c)], V, S, Rc.set c [], O.set c ((gO O c).1, (gO O c).2.1, (k : Int), (gO O c).2.2.2.1, gi V c), Pt.set c 0, F, (if gi Sm j < gi S c then Sm.set j (gi S c) else Sm), (if gi Sm j < gi S c then Vm.set j (gi V c) else Vm), ((k + 1 : Nat) : Int))
    else (cs ++ [0], ops, V, S, Rc.set c (gR Rc c ++ [(j : Int)]), O, Pt, F, (if gi Sm j < gi S c then Sm.set j (gi S c) else Sm), (if gi Sm j < gi S c then Vm.set j (gi V c) else Vm), ((k + 1 : Nat) : Int)))) := by
  obtain ⟨a1, a2, a3, a4⟩ := okArg2 hc
  have f1 := lt_of_get hk
  have f3 : ¬ n ≤ j := by omega
  have q1 : (decide ((j : Int) < 0)) = false := by simp
  have kv : c < V.length := by rw [h.lv]; exact hc
  have kS : c < S.length := by rw [h.ls]; exact hc
  have kr : c < Rc.length := by rw [h.lr]; exact hc
  have ko : c < O.length := by rw [h.lo]; exact hc
  have i1 := idx_ge (0 : Int) (l := Pt) (j := c) (by rw [h.lp]; exact hc)
  have i3 := idx_ge ([] : List Int) kr
  have i4 := idx_ge false (l := F) (j := j) (by rw [h.lf]; exact hj)
  have i5 := idx_ge (0 : Int) (l := Sm) (j := j) (by rw [h.lsm]; exact hj)
  have i6 := idx_ge (0 : Int) (l := Vm) (j := j) (by rw [h.lvm]; exact hj)
  have i7 := idx_ge (0 : Int) kS
  have i8 := idx_ge (0 : Int) kv
  have i9 := idx_ge ((0, 0, 0, false, 0) : Op5) ko
  have iR := fun v => idx_setG ([] : List Int) kr v
  have iO := fun v => idx_setG ((0, 0, 0, false, 0) : Op5) ko v
  have hlen := h.len c hc
  have hhas := has_val (ge [] Rc c) (by have : (ge [] Rc c).length ≤ k := hlen; omega) (j : Int)
  rw [decide_eq_false (show ¬ (j : Int) ∈ ge [] Rc c from hR)] at hhas
  have ap := app1 8 (by decide) (ge [] Rc c) (j : Int) (by have : (ge [] Rc c).length ≤ k := hlen; omega)
  have aq := app1 8 (by decide) cs 0 hcs
  have ao := fun y => app1 40 (by decide) ops y (by have := h.lop; omega)
  have hw1 : w64 ((((ge [] Rc c).length : Int) + 1) * 2) = (((ge [] Rc c).length : Int) + 1) * 2 := w64i (by omega) (by have : (ge [] Rc c).length ≤ k := hlen; omega)
  have kk : w64 ((k : Int) + 1) = (k : Int) + 1 := w64i (by omega) (by omega)
  have hF2 : ge false F j = false := hF
  have hp2 : ge 0 Pt c = 2 := hp
  simp only [gi, gR, gO] at *
  by_cases c1 : ge 0 Sm j < ge 0 S c
  · by_cases c2 : (n : Int) < (((ge [] Rc c).length : Int) + 1) * 2
    · simp [F34_L0, kk, f1, f3, idx_some hk, a1, a2, q1, i1, i3, i4, i5, i6, i7, i8, i9, iO, iR, hhas, ap, aq, ao, hw1, hp2, hF2, c1, c2, List.set_set]
    · simp [F34_L0, kk, f1, f3, idx_some hk, a1, a2, q1, i1, i3, i4, i5, i6, i7, i8, i9, iO, iR, hhas, ap, aq, ao, hw1, hp2, hF2, c1, c2, List.set_set]
  · by_cases c2 : (n : Int) < (((ge [] Rc c).length : Int) + 1) * 2
    · simp [F34_L0, kk, f1, f3, idx_some hk, a1, a2, q1, i1, i3, i4, i5, i6, i7, i8, i9, iO, iR, hhas, ap, aq, ao, hw1, hp2, hF2, c1, c2, List.set_set]
    · simp [F34_L0, kk, f1, f3, idx_some hk, a1, a2, q1, i1, i3, i4, i5, i6, i7, i8, i9, iO, iR, hhas, ap, aq, ao, hw1, hp2, hF2, c1, c2, List.set_set]
end
section
variable {n k : Nat} {l : List Mv} {L : List (Int × Int)} {fw : BitVec 32} {z z' : T6 Cl} {ops : List Op5} {V S : List Int} {Rc : List (List Int)} {O : List Op5} {Pt : List Int} {F : List Bool} {Sm Vm : List Int} {x : Mv} {b : Int} {c j : Nat}
variable (h : Inv n k L fw z ops V S Rc O Pt F Sm Vm) (hn : n ≤ 6) (hk : l[k]? = some (2, (c : Int), (j : Int), b)) (hl : l.length ≤ 60) (hc : c < 6) (hj : j < n) (hF : gF F j = false) (hR : (j : Int) ∉ gR Rc c)
include h hn hk hl hc hj hF hR
set_option linter.unusedSectionVars false
/-- It reaches the copy. -/
theorem reaching (hp0 : gi Pt c ≠ 0) (hb : (ci z c).2.2.2.2.1.getLsbD j = false) (hfw : fw.getLsbD j = false) :
    ∃ (e : Int) (L' : List (Int × Int)) (z' : T6 Cl) (ops' : List Op5) (V' S' : List Int) (Rc' : List (List Int)) (O' : List Op5) (Pt' : List Int) (Sm' Vm' : List Int),
    F67 (L, fw, z, ops) (2, (c : Int), (j : Int), b) (k : Int) = some (e, (L', fw, z', ops')) ∧
    (∀ cs : List Int, cs.length ≤ 60 → F34_L0 (n : Int) l (cs, ops, V, S, Rc, O, Pt, F, Sm, Vm, (k : Int)) = some (.nxt (cs ++ [e], ops', V', S', Rc', O', Pt', F, Sm', Vm', ((k + 1 : Nat) : Int)))) ∧
    Inv n (k + 1) L' fw z' ops' V' S' Rc' O' Pt' F Sm' Vm' := by
  obtain ⟨a1, a2, a3, a4⟩ := okArg2 hc
  have hpt := h.pt c hc
  have hact := h.act c hc hp0
  have hst := h.st c hc
  have hsm := h.sm j hj
  have hlen := h.len c hc
  have f1 := lt_of_get hk
  have hcp := h.cp j hj
  have hLL : (L.length : Int) = n := by rw [h.ll]
  have hjL : j < L.length := by rw [h.ll]; exact hj
  have q4 : (decide ((j : Int) < (L.length : Int))) = true := by rw [h.ll]; simp; omega
  have q3 : (decide ((j : Int) ≥ 0)) = true := by simp
  have e1 : decide ((ci z c).1 > 0) = true := by rw [hpt.1]; simp; omega
  have kv : c < V.length := by rw [h.lv]; exact hc
  have kS : c < S.length := by rw [h.ls]; exact hc
  have kr : c < Rc.length := by rw [h.lr]; exact hc
  have ko : c < O.length := by rw [h.lo]; exact hc
  have kp : c < Pt.length := by rw [h.lp]; exact hc
  have sO : O.set c (gO O c) = O := set_ge ko rfl
  have sP : Pt.set c (gi Pt c) = Pt := set_ge kp rfl
  have sV : V.set c (gi V c) = V := set_ge kv rfl
  have sS : S.set c (gi S c) = S := set_ge kS rfl
  have hstep : ∀ R, F100 (L, z, ops) (c : Int) (j : Int) (k : Int) = some R → F67 (L, fw, z, ops) (2, (c : Int), (j : Int), b) (k : Int) = some (0, (R.1, fw, R.2.1, R.2.2)) := fun R hR => by
    simp [F67, f1, hjL, a3, a4, q3, q4, idx_ci z hc, e1, shc_nat, bitT, hb, hfw, hR]
  have hc3 : gi Pt c = 1 ∨ gi Pt c = 2 := by omega
  have hbits := bit_app (n := n) (rb := (ci z c).2.2.2.2.1) (r := gR Rc c) (j := j) (by omega) hact.2.2
  have hrl : ((gR Rc c).length : Int) ≤ k := by exact_mod_cast hlen
  have hkl : (k : Int) ≤ 60 := by omega
  have habv : ∀ s : Int, c < 6 → abv s (c : Int) ≤ s + 6 ∧ s < abv s (c : Int) := fun s hc => by have := abv_spec (s := s) (i := (c : Int)) ⟨by omega, by omega⟩; omega
  rcases hc3 with hp | hp
  · -- it asks
    have hy : ci z c = (1, (gO O c).2.1, (gO O c).2.2.2.1, (gO O c).2.2.2.2, (ci z c).2.2.2.2.1, ((gR Rc c).length : Int), gi S c, gi V c) := by have := hact.1; rw [hp] at this; exact this
    have R := hstep _ (reach1 (ops := ops) (k := k) hc hjL (by omega) hy ⟨by omega, by omega⟩ ⟨hst.1, by omega⟩ (by rw [hcp]; exact ⟨hsm.1, by show gi Sm j ≤ 1000; omega⟩))
    rw [hcp, hLL] at R
    have F := fun (cs : List Int) (hcs : cs.length ≤ 60) => ref1 h hn hk hl hc hj hF hR hcs hp
    have hs1 : 0 ≤ (if gi S c < gi Sm j then gi Sm j else gi S c) ∧ (if gi S c < gi Sm j then gi Sm j else gi S c) ≤ 6 * (k : Int) := by split <;> omega
    have hpair : (if (gi Sm j, gi Vm j).1 > gi S c then (gi Sm j, gi Vm j) else (gi S c, gi V c)) = (if gi S c < gi Sm j then gi Sm j else gi S c, if gi S c < gi Sm j then gi Vm j else gi V c) := by
      by_cases q : gi S c < gi Sm j <;> simp [q]
    rw [hpair] at R
    have hone : (if (gi Sm j, gi Vm j).1 > gi S c then (gi Sm j, gi Vm j).1 else gi S c) = (if gi S c < gi Sm j then gi Sm j else gi S c) := by
      by_cases q : gi S c < gi Sm j <;> simp [q]
    rw [hone] at R
    generalize (if gi S c < gi Sm j then gi Sm j else gi S c) = s1 at *
    generalize (if gi S c < gi Sm j then gi Vm j else gi V c) = v1 at *
    have hup := h.up
    by_cases c2 : (n : Int) < (((gR Rc c).length : Int) + 1) * 2
    · rw [if_neg (by omega)] at R
      simp only [if_pos c2] at F
      by_cases c3 : (gO O c).2.2.2.1 = true
      · rw [if_pos c3] at R; simp only [if_pos c3] at F
        have I := h.turn hc (L' := L) (Sm' := Sm) (Vm' := Vm) (ops' := ops) (y := (2, (gO O c).2.1, (gO O c).2.2.2.1, (gO O c).2.2.2.2, 0#32, 0, abv s1 (c : Int), (gO O c).2.2.2.2)) (p := 2) (s := abv s1 (c : Int)) (v := (gO O c).2.2.2.2) (r := []) (o := gO O c)
          h.ll h.lsm h.lvm h.cp hup.sm hup.lop (fun d => ci_ts z hc _ d) ⟨rfl, by omega, by omega⟩ (fun _ => ⟨by simp, hact.2.1, fun j hj => by simp⟩) (by simp) (by have := habv s1 hc; push_cast; omega)
        rw [sO] at I
        exact ⟨0, _, _, _, _, _, _, _, _, _, _, R, F, I⟩
      · rw [if_neg c3] at R; simp only [if_neg c3] at F
        have I := h.turn hc (L' := L) (Sm' := Sm) (Vm' := Vm) (ops' := ops) (y := (2, (gO O c).2.1, (gO O c).2.2.2.1, (gO O c).2.2.2.2, 0#32, 0, s1, v1)) (p := 2) (s := s1) (v := v1) (r := []) (o := gO O c)
          h.ll h.lsm h.lvm h.cp hup.sm hup.lop (fun d => ci_ts z hc _ d) ⟨rfl, by omega, by omega⟩ (fun _ => ⟨by simp, hact.2.1, fun j hj => by simp⟩) (by simp) (by push_cast; omega)
        rw [sO] at I
        exact ⟨0, _, _, _, _, _, _, _, _, _, _, R, F, I⟩
    · rw [if_pos (by omega)] at R
      simp only [if_neg c2] at F
      have I := h.turn hc (L' := L) (Sm' := Sm) (Vm' := Vm) (ops' := ops) (y := (1, (gO O c).2.1, (gO O c).2.2.2.1, (gO O c).2.2.2.2, (ci z c).2.2.2.2.1 ||| (1#32 <<< j), ((gR Rc c).length : Int) + 1, s1, v1)) (p := 1) (s := s1) (v := v1) (r := gR Rc c ++ [(j : Int)]) (o := gO O c)
        h.ll h.lsm h.lvm h.cp hup.sm hup.lop (fun d => ci_ts z hc _ d) ⟨rfl, by omega, by omega⟩ (fun _ => ⟨by simp, hact.2.1, hbits⟩) (by simp; omega) (by push_cast; omega)
      rw [sO] at I
      have sP1 : Pt.set c 1 = Pt := by rw [← hp]; exact sP
      rw [sP1] at I
      exact ⟨0, _, _, _, _, _, _, _, _, _, _, R, F, I⟩
  · -- it puts
    have hy : ci z c = (2, (gO O c).2.1, (gO O c).2.2.2.1, (gO O c).2.2.2.2, (ci z c).2.2.2.2.1, ((gR Rc c).length : Int), gi S c, gi V c) := by have := hact.1; rw [hp] at this; exact this
    have R := hstep _ (reach2 (ops := ops) (k := k) hc hjL (by omega) hy ⟨by omega, by omega⟩ (by have := h.lop; omega))
    rw [hcp, hLL] at R
    have F := fun (cs : List Int) (hcs : cs.length ≤ 60) => ref2 h hn hk hl hc hj hF hR hcs hp
    have ho1 := hact.2.1
    simp only [ho1] at F
    have hup := h.up
    have hjs : j < Sm.length := by rw [h.lsm]; exact hj
    have hjv : j < Vm.length := by rw [h.lvm]; exact hj
    -- the copies
    have hcopies : ∃ (L' : List (Int × Int)) (Sm' Vm' : List Int), (if gi S c > (gi Sm j, gi Vm j).1 then L.set j (gi S c, gi V c) else L) = L' ∧ (if gi Sm j < gi S c then Sm.set j (gi S c) else Sm) = Sm' ∧ (if gi Sm j < gi S c then Vm.set j (gi V c) else Vm) = Vm' ∧
        L'.length = n ∧ Sm'.length = n ∧ Vm'.length = n ∧ (∀ i, i < n → gL L' i = (gi Sm' i, gi Vm' i)) ∧ ∀ i, i < n → 0 ≤ gi Sm' i ∧ gi Sm' i ≤ 6 * ((k + 1 : Nat) : Int) := by
      by_cases q : gi Sm j < gi S c
      · refine ⟨_, _, _, if_pos q, if_pos q, if_pos q, by simp [h.ll], by simp [h.lsm], by simp [h.lvm], fun i hi => ?_, fun i hi => ?_⟩
        · show ge (0, 0) (L.set j (gi S c, gi V c)) i = (ge 0 (Sm.set j (gi S c)) i, ge 0 (Vm.set j (gi V c)) i)
          rw [ge_set hjL, ge_set hjs, ge_set hjv]
          by_cases e : i = j
          · simp [e]
          · simp only [if_neg e]; exact h.cp i hi
        · rw [gi, ge_set hjs]
          by_cases e : i = j
          · simp only [if_pos e]; push_cast; omega
          · simp only [if_neg e]; exact hup.sm i hi
      · exact ⟨_, _, _, if_neg q, if_neg q, if_neg q, h.ll, h.lsm, h.lvm, h.cp, hup.sm⟩
    obtain ⟨L', Sm', Vm', g1, g2, g3, g4, g5, g6, g7, g8⟩ := hcopies
    rw [g1] at R
    simp only [g2, g3] at F
    by_cases c2 : (n : Int) < (((gR Rc c).length : Int) + 1) * 2
    · have c2' : ¬ 2 * (((gR Rc c).length : Int) + 1) ≤ (n : Int) := by omega
      rw [if_neg c2', if_neg c2'] at R
      simp only [if_pos c2] at F
      have I := h.turn hc (L' := L') (Sm' := Sm') (Vm' := Vm') (ops' := ops ++ [((c : Int), (gO O c).2.1, (k : Int), (gO O c).2.2.2.1, gi V c)]) (y := (0, (gO O c).2.1, (gO O c).2.2.2.1, (gO O c).2.2.2.2, 0#32, 0, gi S c, gi V c)) (p := 0) (s := gi S c) (v := gi V c) (r := []) (o := ((c : Int), (gO O c).2.1, (k : Int), (gO O c).2.2.2.1, gi V c))
        g4 g5 g6 g7 g8 (by simp; have := h.lop; omega) (fun d => ci_ts z hc _ d) ⟨rfl, by omega, by omega⟩ (fun q => absurd rfl q) (by simp) (by push_cast; omega)
      rw [sV, sS] at I
      exact ⟨0, _, _, _, _, _, _, _, _, _, _, R, F, I⟩
    · have c2' : 2 * (((gR Rc c).length : Int) + 1) ≤ (n : Int) := by omega
      rw [if_pos c2', if_pos c2'] at R
      simp only [if_neg c2] at F
      have I := h.turn hc (L' := L') (Sm' := Sm') (Vm' := Vm') (ops' := ops) (y := (2, (gO O c).2.1, (gO O c).2.2.2.1, (gO O c).2.2.2.2, (ci z c).2.2.2.2.1 ||| (1#32 <<< j), ((gR Rc c).length : Int) + 1, gi S c, gi V c)) (p := 2) (s := gi S c) (v := gi V c) (r := gR Rc c ++ [(j : Int)]) (o := gO O c)
        g4 g5 g6 g7 g8 hup.lop (fun d => ci_ts z hc _ d) ⟨rfl, by omega, by omega⟩ (fun _ => ⟨by simp, hact.2.1, hbits⟩) (by simp; omega) (by push_cast; omega)
      have sP2 : Pt.set c 2 = Pt := by rw [← hp]; exact sP
      rw [sO, sV, sS, sP2] at I
      exact ⟨0, _, _, _, _, _, _, _, _, _, _, R, F, I⟩
end

/-! All moves. -/
theorem nat_of {a : Int} (h : 0 ≤ a) : ∃ c : Nat, a = (c : Int) := ⟨a.toNat, by omega⟩
section
variable {n k : Nat} {l : List Mv} {L : List (Int × Int)} {fw : BitVec 32} {z : T6 Cl} {ops : List Op5} {V S : List Int} {Rc : List (List Int)} {O : List Op5} {Pt : List Int} {F : List Bool} {Sm Vm : List Int} {x : Mv}
theorem move (h : Inv n k L fw z ops V S Rc O Pt F Sm Vm) (hn : n ≤ 6) (hk : l[k]? = some x) (hl : l.length ≤ 60) : Both n k l L fw z ops V S Rc O Pt F Sm Vm x := by
  cases c : (decide (x.1 < 1) || decide (x.1 > 3)) with
  | true => exact wrongKind h hn hk hl c
  | false =>
    cases c1 : (((x.1 != 3) && ((decide (x.2.1 < 0)) || (decide (x.2.1 ≥ 6)))) || ((x.1 != 1) && ((decide (x.2.2.1 < 0)) || (decide (x.2.2.1 ≥ (n : Int)))))) with
    | true => exact wrongArg h hn hk hl c c1
    | false =>
      obtain ⟨q, a, t, b⟩ := x
      simp only [Bool.or_eq_false_iff, Bool.and_eq_false_iff, bne_eq_false_iff_eq, decide_eq_false_iff_not] at c c1
      have hq : q = 1 ∨ q = 2 ∨ q = 3 := by omega
      rcases hq with rfl | rfl | rfl
      · obtain ⟨c, rfl⟩ := nat_of (a := a) (by omega)
        have hc : c < 6 := by omega
        by_cases hp : gi Pt c = 0
        · exact opening h hn hk hl rfl hc hp
        · exact held h hn hk hl rfl hc (.inl ⟨rfl, hp⟩)
      · obtain ⟨c, rfl⟩ := nat_of (a := a) (by omega)
        obtain ⟨j, rfl⟩ := nat_of (a := t) (by omega)
        have hc : c < 6 := by omega
        have hj : j < n := by omega
        by_cases hp : gi Pt c = 0
        · exact held h hn hk hl rfl hc (.inr ⟨rfl, by omega, by omega, hp⟩)
        · by_cases hm : ((ci z c).2.2.2.2.1.getLsbD j = true) ∨ gF F j = true
          · exact missing h hn hk hl rfl hc hj hp hm
          · have hb : (ci z c).2.2.2.2.1.getLsbD j = false := by
              cases e : (ci z c).2.2.2.2.1.getLsbD j with
              | false => rfl
              | true => exact absurd (.inl e) hm
            have hF : gF F j = false := by
              cases e : gF F j with
              | false => rfl
              | true => exact absurd (.inr e) hm
            have hR : (j : Int) ∉ gR Rc c := fun q => by
              have := ((h.act c hc hp).2.2 j hj).2 q
              rw [hb] at this; cases this
            obtain ⟨e, L', z', ops', V', S', Rc', O', Pt', Sm', Vm', r1, r2, r3⟩ := reaching h hn hk hl hc hj hF hR hp hb (by rw [h.fl j hj]; exact hF)
            exact ⟨e, L', fw, z', ops', V', S', Rc', O', Pt', F, Sm', Vm', r1, r2, r3⟩
      · obtain ⟨j, rfl⟩ := nat_of (a := t) (by omega)
        exact failing h hn hk hl rfl (by omega)
end
/-- The script, move by move, on both sides. -/
theorem run_both {n : Nat} {l : List Mv} (hn : n ≤ 6) (hl : l.length ≤ 60) : ∀ (m k : Nat), k + m = l.length → ∀ {cs : List Int} {L : List (Int × Int)} {fw : BitVec 32} {z : T6 Cl} {ops : List Op5} {V S : List Int} {Rc : List (List Int)} {O : List Op5} {Pt : List Int} {F : List Bool} {Sm Vm : List Int},
    cs.length = k → Inv n k L fw z ops V S Rc O Pt F Sm Vm →
    ∃ (cs' : List Int) (L' : List (Int × Int)) (fw' : BitVec 32) (z' : T6 Cl) (ops' : List Op5) (V' S' : List Int) (Rc' : List (List Int)) (O' : List Op5) (Pt' : List Int) (F' : List Bool) (Sm' Vm' : List Int),
      whileM (F33_L0 l) (cs, L, ops, z, fw, (k : Int)) = some (.brk (cs', L', ops', z', fw')) ∧
      whileM (F34_L0 (n : Int) l) (cs, ops, V, S, Rc, O, Pt, F, Sm, Vm, (k : Int)) = some (.brk (cs', ops', V', S', Rc', O', Pt', F', Sm', Vm')) ∧
      cs'.length = l.length ∧ Inv n l.length L' fw' z' ops' V' S' Rc' O' Pt' F' Sm' Vm' := by
  intro m
  induction m with
  | zero =>
    intro k hk cs L fw z ops V S Rc O Pt F Sm Vm hcs h
    obtain rfl : k = l.length := by omega
    exact ⟨_, _, _, _, _, _, _, _, _, _, _, _, _, whileM_brk (by simp [F33_L0]), whileM_brk (by simp [F34_L0]), hcs, h⟩
  | succ m ih =>
    intro k hk cs L fw z ops V S Rc O Pt F Sm Vm hcs h
    have hlt : k < l.length := by omega
    have hg : l[k]? = some l[k] := List.getElem?_eq_getElem hlt
    obtain ⟨e, L1, fw1, z1, ops1, V1, S1, Rc1, O1, Pt1, F1, Sm1, Vm1, r1, r2, r3⟩ := move h hn hg hl
    have n1 : F33_L0 l (cs, L, ops, z, fw, (k : Int)) = some (.nxt (cs ++ [e], L1, ops1, z1, fw1, ((k + 1 : Nat) : Int))) := by
      have hd : decide ((k : Int) < (l.length : Int)) = true := by rw [decide_eq_true_eq]; omega
      simp only [F33_L0, hd, cond_true, idx_some hg, Option.bind_some, r1, app1 8 (by decide) cs e (by omega), w64_succ hlt (by omega)]
    obtain ⟨cs', L', fw', z', ops', V', S', Rc', O', Pt', F', Sm', Vm', w1, w2, w3, w4⟩ := ih (k + 1) (by omega) (cs := cs ++ [e]) (by simp [hcs]) r3
    refine ⟨cs', L', fw', z', ops', V', S', Rc', O', Pt', F', Sm', Vm', ?_, ?_, w3, w4⟩
    · rw [whileM_nxt n1]; exact w1
    · rw [whileM_nxt (r2 cs (by omega))]; exact w2
theorem same_ints (l : List Int) (hl : l.length ≤ 1000) : F25 l l = some true := by
  have h : whileM (F25_L0 l l) 0 = some (.brk ()) := by
    refine while_upto (fun k => (k : Int)) l.length (fun k hk => ?_) (by simp [F25_L0]) (by simp)
    have hg : l[k]? = some l[k] := List.getElem?_eq_getElem hk
    have hd : decide ((k : Int) < (l.length : Int)) = true := by rw [decide_eq_true_eq]; omega
    simp only [F25_L0, hd, cond_true, idx_some hg, Option.bind_some, bne_self_eq_false, cond_false, w64_succ hk (by omega)]
  unfold F25
  rw [h]; simp [Ctl.on]
theorem same_codes (l : List Int) (hl : l.length ≤ 1000) : F18 l l = some true := same_ints l hl
theorem same_ops (l : List Op5) (hl : l.length ≤ 1000) : F35 l l = some true := by
  have h : whileM (F35_L0 l l) 0 = some (.brk ()) := by
    refine while_upto (fun k => (k : Int)) l.length (fun k hk => ?_) (by simp [F35_L0]) (by simp)
    have hg : l[k]? = some l[k] := List.getElem?_eq_getElem hk
    have hd : decide ((k : Int) < (l.length : Int)) = true := by rw [decide_eq_true_eq]; omega
    simp only [F35_L0, hd, cond_true, idx_some hg, Option.bind_some, beq_self_eq_true, Bool.and_true, Bool.not_true, cond_false, w64_succ hk (by omega)]
  unfold F35
  rw [h]; simp [Ctl.on]
theorem take_all {L : List (Int × Int)} (hl : L.length ≤ 60) : whileM (F33_L1 L) ([], [], 0) = some (.brk (L.map (·.1), L.map (·.2))) := by
  have h := while_upto (body := F33_L1 L) (fun k => ((L.take k).map (·.1), (L.take k).map (·.2), (k : Int))) L.length (c := .brk (L.map (·.1), L.map (·.2))) (fun k hk => ?_) (by simp [F33_L1]) (by simp)
  · simpa using h
  · have hg : L[k]? = some L[k] := List.getElem?_eq_getElem hk
    have hd : decide ((k : Int) < (L.length : Int)) = true := by rw [decide_eq_true_eq]; omega
    have ht : L.take (k + 1) = L.take k ++ [L[k]] := by rw [List.take_add_one, hg]; rfl
    simp only [F33_L1, hd, cond_true, idx_some hg, Option.bind_some, app1 8 (by decide) ((L.take k).map (·.1)) L[k].1 (by simp; omega), app1 8 (by decide) ((L.take k).map (·.2)) L[k].2 (by simp; omega), w64_succ hk (by omega)]
    simp only [ht, List.map_append, List.map_cons, List.map_nil]
theorem ge_ext {α : Type} (d : α) {l m : List α} (h : l.length = m.length) (e : ∀ i, i < l.length → ge d l i = ge d m i) : l = m := by
  apply List.ext_getElem? 
  intro i
  by_cases hi : i < l.length
  · rw [get_ge d hi, get_ge d (by omega), e i hi]
  · rw [List.getElem?_eq_none (by omega), List.getElem?_eq_none (by omega)]
theorem mkl_rep {α : Type} {n b : Nat} (hn : n ≤ 6) (hb : b ≤ 64) (z : α) : mkl (n : Int) b z = some (List.replicate n z) := by
  unfold mkl
  rw [if_pos]; simp
  refine ⟨by omega, ?_, by omega⟩
  have : (b : Int) * (n : Int) ≤ 64 * 6 := Int.mul_le_mul (by omega) (by omega) (by omega) (by omega)
  omega
theorem law_CopiesPlays (x0 : Int) (b0 : -9223372036854775808 ≤ x0 ∧ x0 ≤ 9223372036854775807) (x1 : List Mv) (l1 : x1.length ≤ 9223372036854775807) (w1 : ∀ x ∈ x1, (-9223372036854775808 ≤ x.1 ∧ x.1 ≤ 9223372036854775807) ∧ (-9223372036854775808 ≤ x.2.1 ∧ x.2.1 ≤ 9223372036854775807) ∧ (-9223372036854775808 ≤ x.2.2.1 ∧ x.2.2.1 ≤ 9223372036854775807) ∧ (-9223372036854775808 ≤ x.2.2.2 ∧ x.2.2.2 ≤ 9223372036854775807)) :
    F9 x0 x1 = some true := by
  cases c : (((decide (x0 < 1)) || (decide (x0 > 6))) || (decide ((x1.length : Int) > 60))) with
  | true =>
    have h1 := same_codes [] (by simp)
    have h2 := same_ops [] (by simp)
    have h3 := same_ints [] (by simp)
    simp [F9, F33, F21, c, h1, h2, h3]
  | false =>
    have c' := c
    simp only [Bool.or_eq_false_iff, decide_eq_false_iff_not] at c'
    obtain ⟨n, rfl⟩ := nat_of (a := x0) (by omega)
    have hn : n ≤ 6 := by omega
    have hl : x1.length ≤ 60 := by omega
    have I : Inv n 0 (List.replicate n (0, 0)) 0 ((0, 0, false, 0, 0, 0, 0, 0), (0, 0, false, 0, 0, 0, 0, 0), (0, 0, false, 0, 0, 0, 0, 0), (0, 0, false, 0, 0, 0, 0, 0), (0, 0, false, 0, 0, 0, 0, 0), (0, 0, false, 0, 0, 0, 0, 0)) [] (List.replicate 6 0) (List.replicate 6 0) (List.replicate 6 []) (List.replicate 6 (0, 0, 0, false, 0)) (List.replicate 6 0) (List.replicate n false) (List.replicate n 0) (List.replicate n 0) := by
      refine ⟨by simp, by simp, by simp, by simp, by simp, by simp, by simp, by simp, by simp, by simp, fun j hj => ?_, fun j hj => ?_, fun c hc => ?_, fun c hc q => ?_, fun c hc => ?_, fun c hc => ?_, fun j hj => ?_⟩
      · simp only [gL, gi, ge_rep _ _ hj]
      · simp only [gF, ge_rep _ _ hj]; simp
      · simp only [gi, ge_rep _ _ hc]
        have : c = 0 ∨ c = 1 ∨ c = 2 ∨ c = 3 ∨ c = 4 ∨ c = 5 := by omega
        rcases this with rfl | rfl | rfl | rfl | rfl | rfl <;> exact ⟨rfl, by omega, by omega⟩
      · simp only [gi, ge_rep _ _ hc] at q; exact absurd rfl q
      · simp only [gR, ge_rep _ _ hc]; simp
      · simp only [gi, ge_rep _ _ hc]; omega
      · simp only [gi, ge_rep _ _ hj]; omega
    obtain ⟨cs', L', fw', z', ops', V', S', Rc', O', Pt', F', Sm', Vm', r1, r2, r3, r4⟩ := run_both hn hl x1.length 0 (by omega) (cs := []) rfl I
    have m6 : ∀ {α : Type} (b : Nat), b ≤ 64 → ∀ z : α, mkl (6 : Int) b z = some (List.replicate 6 z) := fun b hb z => mkl_rep (n := 6) (by decide) hb z
    have eF33 : F33 (n : Int) x1 = some ((cs', ops', L'.map (·.1), L'.map (·.2)), 0) := by
      have r1' : whileM (F33_L0 x1) ([], List.replicate n (0, 0), [], ((0, 0, false, 0, 0, 0, 0, 0), (0, 0, false, 0, 0, 0, 0, 0), (0, 0, false, 0, 0, 0, 0, 0), (0, 0, false, 0, 0, 0, 0, 0), (0, 0, false, 0, 0, 0, 0, 0), (0, 0, false, 0, 0, 0, 0, 0)), 0, 0) = some (.brk (cs', L', ops', z', fw')) := r1
      simp only [F33, c, cond_false, mkl_rep hn (show 16 ≤ 64 by decide), Option.bind_some, r1', Ctl.on, take_all (L := L') (by rw [r4.ll]; omega)]
    have eF34 : F34 (n : Int) x1 = some (cs', ops', Sm', Vm') := by
      have r2' : whileM (F34_L0 (n : Int) x1) ([], [], List.replicate 6 0, List.replicate 6 0, List.replicate 6 [], List.replicate 6 (0, 0, 0, false, 0), List.replicate 6 0, List.replicate n false, List.replicate n 0, List.replicate n 0, 0) = some (.brk (cs', ops', V', S', Rc', O', Pt', F', Sm', Vm')) := r2
      simp only [F34, mkl_rep hn (show 8 ≤ 64 by decide), mkl_rep hn (show 1 ≤ 64 by decide), m6 8 (by decide), m6 40 (by decide), m6 24 (by decide), Option.bind_some, r2', Ctl.on]
    have eS : L'.map (·.1) = Sm' := by
      refine ge_ext 0 (by rw [List.length_map, r4.ll, r4.lsm]) fun i hi => ?_
      rw [List.length_map, r4.ll] at hi
      have := r4.cp i hi
      unfold ge
      rw [List.getD_eq_getElem?_getD, List.getElem?_map, get_ge (0, 0) (by rw [r4.ll]; exact hi)]
      show (gL L' i).1 = gi Sm' i
      rw [this]
    have eV : L'.map (·.2) = Vm' := by
      refine ge_ext 0 (by rw [List.length_map, r4.ll, r4.lvm]) fun i hi => ?_
      rw [List.length_map, r4.ll] at hi
      have := r4.cp i hi
      unfold ge
      rw [List.getD_eq_getElem?_getD, List.getElem?_map, get_ge (0, 0) (by rw [r4.ll]; exact hi)]
      show (gL L' i).2 = gi Vm' i
      rw [this]
    have h1 := same_codes cs' (by omega)
    have h2 := same_ops ops' (by have := r4.lop; omega)
    have h3 := same_ints Sm' (by rw [r4.lsm]; omega)
    have h4 := same_ints Vm' (by rw [r4.lvm]; omega)
    rw [eS, eV] at eF33
    have eF21 : F21 (n : Int) (x1.length : Int) = some 0 := by simp only [F21, c, cond_false]
    simp [F9, eF33, eF34, eF21, h1, h2, h3, h4]
end Go.Proofs.Ythfkdepcnhhepaa
