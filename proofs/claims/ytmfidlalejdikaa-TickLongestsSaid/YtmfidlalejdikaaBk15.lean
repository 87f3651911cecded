/-
  Regions whose operations come in an order that is left open. Nothing of any program stands here.
-/
import Derived.Test.YtmfidlalejdikaaBk14
import Derived.OrdersHeld
namespace Go.Bk
open Go
set_option linter.unusedVariables false
set_option linter.unusedSimpArgs false

section
variable {P : Program} {N : Nat} {B : World} {E : Env} {L : List HP} {ops : Array Oper} {Q : Act → World → Prop} {L0 : List HP} {fuel : Nat} {listed : Array Bool} {i : Nat} {o : Oper}

theorem wpAnyH_monoX {md : Region.Mode} {S : World → Prop} {Q' : Exit → Act → World → Prop} (hq : ∀ a w, Q a w → Q' .normal a w) : ∀ (fuel : Nat) (listed : Array Bool) (a : Act) (w : World),
    wpAnyH P md ops (fun e a w => e = .normal ∧ Q a w) S fuel listed a w → wpAnyH P md ops Q' S fuel listed a w
  | 0, _, _, _, h => ⟨h.1, hq _ _ h.2.2⟩
  | fuel + 1, listed, a, w, h => by
    refine ⟨fun hr => hq _ _ (h.1 hr).2, fun i hi => ?_⟩
    have h1 := h.2 i hi
    unfold wpOp at h1 ⊢
    split
    · rename_i hn
      simp only [hn] at h1
      exact ⟨h1.1, wpAnyH_monoX hq fuel _ _ _ h1.2⟩
    · rename_i o ho
      simp only [ho] at h1
      split
      · rename_i hw
        rw [if_pos hw] at h1
        rcases h1 with h1 | ⟨_, a0, w0, h0, _⟩
        · exact .inl (Oper.wp_mono2 (fun a w h => ⟨h.1, wpAnyH_monoX hq fuel _ a w h.2⟩) (fun e a w ne h => absurd h.1 ne) h1)
        · cases h0
      · rename_i hw
        rw [if_neg hw] at h1
        exact ⟨h1.1, wpAnyH_monoX hq fuel _ _ w h1.2⟩

/-- Operations in any order; what L0 says stays true throughout. -/
def TA (P : Program) (N : Nat) (B : World) (ops : Array Oper) (L0 : List HP) (fuel : Nat) (listed : Array Bool) (E : Env) (L : List HP) (Q : Act → World → Prop) : Prop :=
  ∀ a w, EnvOk N E a → St B L w → wpAnyH P .any ops (fun e a w => e = .normal ∧ Q a w) (St B L0) fuel listed a w
def TB (P : Program) (N : Nat) (B : World) (ops : Array Oper) (L0 : List HP) (fuel : Nat) (listed : Array Bool) (E : Env) (L : List HP) (Q : Act → World → Prop) (i : Nat) : Prop :=
  ∀ a w, EnvOk N E a → St B L w → wpOp P ops (fun e a w => e = .normal ∧ Q a w) i (fun a' w' => St B L0 w' ∧ wpAnyH P .any ops (fun e a w => e = .normal ∧ Q a w) (St B L0) fuel (listed.setIfInBounds i true) a' w') a w

theorem TC.region_any {id : Nat} {l : List Oper} {X : Post} (L0 : List HP) (n : Nat) (hm : P.follows .mixedOrders = true) (hn : l.toArray.size = n)
    (h : TA P N B l.toArray L0 n (Array.replicate n false) E L X.nrm) : TC P N B (.region id l.toArray true) E L X := by
  intro a w e s
  subst hn
  exact wp_region_held (S := St B L0) hm (wpAnyH_monoX (fun a w h => h) _ _ _ _ (h a _ e s.drew))
theorem TA.nil (hr : Region.ready .any ops listed = []) (h : ∀ a w, EnvOk N E a → St B L w → Q a w) : TA P N B ops L0 fuel listed E L Q :=
  fun a w e s => wpAnyH_done hr ⟨rfl, h a w e s⟩ _
theorem TA.code {y : Code} {X : Post} (hr : Region.ready .any ops listed = []) (h : TC P N B y E L X) : TA P N B ops L0 fuel listed E L (fun a w => y.wp P X.q a w) := TA.nil hr h
theorem TA.take {d : Nat} {v : Value} (i : Nat) (hi : ops[i]? = some o) (hg : o.guard = none) (hdst : o.dst = some d) (hd : Nat.blt d N = true) (hs : StepS P N B o E L0 v)
    (hsel : Region.noSelect ops = true) (hf : Region.free .any ops listed i = true) (hr : (Region.ready .any ops listed).contains i = true) (hL : ∀ h, Sat L h → Sat L0 h)
    (h : TA P N B ops L0 fuel (listed.setIfInBounds i true) ((d, v) :: E) L Q) : TA P N B ops L0 (fuel + 1) listed E L Q := by
  intro a w e s
  refine wpAnyH_take (v := v) hi hsel hf hr (fun c a w h => ?_) (.inl ⟨?_, fun w hw => hs a w e hw⟩) (s.mono hL) ?_
  · exact absurd h.1 (by simp)
  · simp [Region.wanted, hg]
  · rw [hdst]; exact h _ _ (e.put hd v) s
theorem TA.all {rs : List Nat} (hr : Region.ready .any ops listed = rs) (hne : rs ≠ []) (h : ∀ i ∈ rs, TB P N B ops L0 fuel listed E L Q i) : TA P N B ops L0 (fuel + 1) listed E L Q :=
  fun a w e s => wpAnyH_all hr hne fun i hi => h i hi a w e s
theorem TA.all1 {i : Nat} (hr : Region.ready .any ops listed = [i]) (h : TB P N B ops L0 fuel listed E L Q i) : TA P N B ops L0 (fuel + 1) listed E L Q :=
  TA.all hr (by simp) fun j hj => by have : j = i := by simpa using hj
                                     subst this; exact h
theorem TA.all2 {i j : Nat} (hr : Region.ready .any ops listed = [i, j]) (h1 : TB P N B ops L0 fuel listed E L Q i) (h2 : TB P N B ops L0 fuel listed E L Q j) : TA P N B ops L0 (fuel + 1) listed E L Q :=
  TA.all hr (by simp) fun m hm => by
    rcases List.mem_cons.1 hm with rfl | hm
    · exact h1
    · rcases List.mem_cons.1 hm with rfl | hm
      · exact h2
      · cases hm
theorem TA.all3 {i j k : Nat} (hr : Region.ready .any ops listed = [i, j, k]) (h1 : TB P N B ops L0 fuel listed E L Q i) (h2 : TB P N B ops L0 fuel listed E L Q j) (h3 : TB P N B ops L0 fuel listed E L Q k) : TA P N B ops L0 (fuel + 1) listed E L Q :=
  TA.all hr (by simp) fun m hm => by
    rcases List.mem_cons.1 hm with rfl | hm
    · exact h1
    · rcases List.mem_cons.1 hm with rfl | hm
      · exact h2
      · rcases List.mem_cons.1 hm with rfl | hm
        · exact h3
        · cases hm
theorem TB.of {i : Nat} (hi : ops[i]? = some o)
    (h : TO P N B ops [o] E L (fun a' w' => St B L0 w' ∧ wpAnyH P .any ops (fun e a w => e = .normal ∧ Q a w) (St B L0) fuel (listed.setIfInBounds i true) a' w')) : TB P N B ops L0 fuel listed E L Q i := by
  intro a w e s
  have h1 := h a w e s
  unfold wpList at h1
  unfold wpOp
  simp only [hi]
  split
  · rename_i hw
    rw [if_pos hw] at h1
    rcases h1 with h1 | ⟨_, a0, w0, h0, _⟩
    · exact .inl (Oper.wp_mono2 (fun a w h => h.2) (fun e a w ne h => absurd h.1 ne) h1)
    · cases h0
  · rename_i hw
    rw [if_neg hw] at h1
    exact h1.2
theorem TA.back (hL : ∀ h, Sat L h → Sat L0 h) (h : TA P N B ops L0 fuel listed E L Q) :
    TO P N B ops [] E L (fun a' w' => St B L0 w' ∧ wpAnyH P .any ops (fun e a w => e = .normal ∧ Q a w) (St B L0) fuel listed a' w') := TO.nil fun a w e s => ⟨s.mono hL, h a w e s⟩

/-- A slice's header is one cell. -/
theorem Rd.one {sz : Nat} {v : Value} {css : List (List Value)} {h : PH} (en : Ent L (Rd sz v css)) (s : Sat L h) : v.oneCell' = true ∧ v.cells = #[v] := by
  obtain ⟨h1, _, _, hr⟩ := en h s
  rcases hr with ⟨⟨ad, rfl⟩, _⟩ | ⟨b, o, cap, arr, el, fz, rfl, _⟩ <;> exact ⟨rfl, rfl⟩
end
end Go.Bk
