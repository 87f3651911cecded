/-
  Regions whose operations come in an order that is left open. Nothing of any program stands here.
-/
import Derived.Test.YtgofkfhkolkfmaaBk14
import Derived.OrdersHeld
import Derived.StillTail
namespace Go.Bk
open Go
set_option linter.unusedVariables false
set_option linter.unusedSimpArgs false

section
variable {P : Program} {N : Nat} {B : World} {E : Env} {L : List HP} {ops : Array Oper} {Q : Act → World → Prop} {L0 : List HP} {fuel : Nat} {listed : Array Bool} {i : Nat} {o : Oper}

/-- What is asked of the worlds while operation n has not come up: L0; behind it: nothing. -/
def Inv (B : World) (L0 : List HP) (n : Nat) (listed : Array Bool) (w : World) : Prop := St B (if listed.getD n false = true then [] else L0) w
theorem Inv.of {n : Nat} {w : World} (h : listed.getD n false = true ∨ ∀ h, Sat L h → Sat L0 h) (s : St B L w) : Inv B L0 n listed w := by
  unfold Inv
  split
  · exact s.mono fun _ _ => trivial
  · rename_i c
    rcases h with h | h
    · exact absurd h c
    · exact s.mono h
theorem Inv.free {n : Nat} {w : World} (h : Inv B L0 n listed w) : St B [] w := h.mono fun _ _ => trivial
theorem Inv.held {n : Nat} {w : World} (h : Inv B L0 n listed w) (hn : listed.getD n false = false) : St B L0 w := by
  unfold Inv at h; rw [if_neg (by simp [hn])] at h; exact h

/-- 'wpAnyH' with a condition that hangs on what has come up. -/
def wpAnyI (P : Program) (md : Region.Mode) (ops : Array Oper) (Q : Exit → Act → World → Prop) (I : Array Bool → World → Prop) : Nat → Array Bool → Act → World → Prop
  | 0, listed, a, w => Region.ready md ops listed = [] ∧ Q .normal a w
  | fuel + 1, listed, a, w =>
    (Region.ready md ops listed = [] → Q .normal a w) ∧
    ∀ i ∈ Region.ready md ops listed, wpOp P ops Q i (fun a' w' => I (listed.setIfInBounds i true) w' ∧ wpAnyI P md ops Q I fuel (listed.setIfInBounds i true) a' w') a w
theorem wpAny_of_I {md : Region.Mode} {I : Array Bool → World → Prop} {Q : Exit → Act → World → Prop} : ∀ (fuel : Nat) (listed : Array Bool) (a : Act) (w : World), wpAnyI P md ops Q I fuel listed a w → wpAny P md ops Q fuel listed a w
  | 0, _, _, _, h => h
  | fuel + 1, _, _, _, h => ⟨h.1, fun i hi => wpOp_mono (fun a' w' h' => wpAny_of_I fuel _ a' w' h'.2) (h.2 i hi)⟩
theorem wpAnyI_first {md : Region.Mode} {I : Array Bool → World → Prop} {Q : Exit → Act → World → Prop} {S : World → Prop} {Ok : Array Bool → Prop} {i : Nat} {oi : Oper} {v : Value} (hi : ops[i]? = some oi) (hsel : ∀ (j : Nat) (o : Oper) cs b, ops[j]? = some o → o.op ≠ .select cs b)
    (hQ : ∀ c a w, Q (.panic c) (a.put oi.dst v) w → Q (.panic c) a w)
    (hstep : ∀ listed j, Ok listed → i ∈ Region.ready md ops listed → j ∈ Region.ready md ops listed → j ≠ i → Ok (listed.setIfInBounds j true) ∧ ∀ w, I ((listed.setIfInBounds i true).setIfInBounds j true) w → I (listed.setIfInBounds j true) w ∧ S w) :
    ∀ (fuel : Nat) (listed : Array Bool) (a : Act) (w : World),
      (∀ j oj, ops[j]? = some oj → j ≠ i → listed.getD j true = false → (∀ e ∈ oj.after, Region.binds md e = true → e.on ≠ i) → oi.apart ops oj = true) →
      Ok listed → i ∈ Region.ready md ops listed → YieldsIf P ops S oi v a → S w → I (listed.setIfInBounds i true) w →
      wpAnyI P md ops Q I fuel (listed.setIfInBounds i true) (a.put oi.dst v) w → wpAnyI P md ops Q I (fuel + 1) listed a w := by
  intro fuel
  induction fuel with
  | zero =>
    intro listed a w _ _ hr hy hS hI H
    refine ⟨fun h => (by rw [h] at hr; cases hr), fun j hj => ?_⟩
    by_cases hji : j = i
    · subst hji; exact hy.wpOp hi hS ⟨hI, H⟩
    · have := ready_mono hj hji
      rw [H.1] at this
      cases this
  | succ fuel ih =>
    intro listed a w hfree hok hr hy hS hI H
    refine ⟨fun h => (by rw [h] at hr; cases hr), fun j hj => ?_⟩
    by_cases hji : j = i
    · subst hji; exact hy.wpOp hi hS ⟨hI, H⟩
    · have h1 := H.2 j (ready_mono hj hji)
      obtain ⟨hjun, oj, hoj, hall⟩ := mem_ready.1 hj
      have hnot : ∀ e ∈ oj.after, Region.binds md e = true → e.on ≠ i := fun e he hb heq => by
        have h1 := hall e he hb
        have h0 := (mem_ready.1 hr).1
        rw [heq] at h1
        rcases Nat.lt_or_ge i listed.size with h' | h'
        · simp [h'] at h0 h1; rw [h0] at h1; cases h1
        · simp [Array.getElem?_eq_none h'] at h1
      have h2 := wpOp_putIf hoj (hfree j oj hoj hji hjun hnot) (fun cs b => hsel i oi cs b hi) (fun cs b => hsel j oj cs b hoj) hQ hy h1
      have hfree' : ∀ k ok, ops[k]? = some ok → k ≠ i → (listed.setIfInBounds j true).getD k true = false →
          (∀ e ∈ ok.after, Region.binds md e = true → e.on ≠ i) → oi.apart ops ok = true := fun k ok hk hki hun hno => by
        refine hfree k ok hk hki ?_ hno
        by_cases hjk : j = k
        · subst hjk; exact hjun
        · rw [getD_set_ne true hjk] at hun; exact hun
      obtain ⟨hok', hstep'⟩ := hstep listed j hok hr hj hji
      refine wpOp_mono (fun a' w' h3 => ?_) h2
      obtain ⟨hIj, hSw⟩ := hstep' w' h3.2.1
      refine ⟨hIj, ih (listed.setIfInBounds j true) a' w' hfree' hok' (ready_mono hr (Ne.symm hji)) h3.1 hSw ?_ ?_⟩
      · rw [Array.setIfInBounds_comm _ _ hji]; exact h3.2.1
      · rw [Array.setIfInBounds_comm _ _ hji]
        exact h3.2.2
theorem wpAnyI_monoX {md : Region.Mode} {I : Array Bool → World → Prop} {Q' : Exit → Act → World → Prop} (hq : ∀ a w, Q a w → Q' .normal a w) : ∀ (fuel : Nat) (listed : Array Bool) (a : Act) (w : World),
    wpAnyI P md ops (fun e a w => e = .normal ∧ Q a w) I fuel listed a w → wpAnyI P md ops Q' I fuel listed a w
  | 0, _, _, _, h => ⟨h.1, hq _ _ h.2.2⟩
  | fuel + 1, listed, a, w, h => by
    refine ⟨fun hr => hq _ _ (h.1 hr).2, fun i hi => ?_⟩
    have h1 := h.2 i hi
    unfold wpOp at h1 ⊢
    split
    · rename_i hn
      simp only [hn] at h1
      exact ⟨h1.1, wpAnyI_monoX hq fuel _ _ _ h1.2⟩
    · rename_i o ho
      simp only [ho] at h1
      split
      · rename_i hw
        rw [if_pos hw] at h1
        rcases h1 with h1 | ⟨_, a0, w0, h0, _⟩
        · exact .inl (Oper.wp_mono2 (fun a w h => ⟨h.1, wpAnyI_monoX hq fuel _ a w h.2⟩) (fun e a w ne h => absurd h.1 ne) h1)
        · cases h0
      · rename_i hw
        rw [if_neg hw] at h1
        exact ⟨h1.1, wpAnyI_monoX hq fuel _ _ w h1.2⟩

/-- Operations in any order; what L0 says stays true until operation n has come up. -/
def TA (P : Program) (N : Nat) (B : World) (ops : Array Oper) (L0 : List HP) (n : Nat) (fuel : Nat) (listed : Array Bool) (E : Env) (L : List HP) (Q : Act → World → Prop) : Prop :=
  ∀ a w, EnvOk N E a → St B L w → wpAnyI P .any ops (fun e a w => e = .normal ∧ Q a w) (Inv B L0 n) fuel listed a w
def TB (P : Program) (N : Nat) (B : World) (ops : Array Oper) (L0 : List HP) (n : Nat) (fuel : Nat) (listed : Array Bool) (E : Env) (L : List HP) (Q : Act → World → Prop) (i : Nat) : Prop :=
  ∀ a w, EnvOk N E a → St B L w → wpOp P ops (fun e a w => e = .normal ∧ Q a w) i (fun a' w' => Inv B L0 n (listed.setIfInBounds i true) w' ∧ wpAnyI P .any ops (fun e a w => e = .normal ∧ Q a w) (Inv B L0 n) fuel (listed.setIfInBounds i true) a' w') a w

variable {n : Nat}
theorem TC.region_any {id : Nat} {l : List Oper} {X : Post} (L0 : List HP) (n m : Nat) (hm : P.follows .mixedOrders = true) (hn : l.toArray.size = m)
    (h : TA P N B l.toArray L0 n m (Array.replicate m false) E L X.nrm) : TC P N B (.region id l.toArray true) E L X := by
  intro a w e s
  subst hn
  exact wp_region_any hm (wpAny_of_I _ _ _ _ (wpAnyI_monoX (fun a w h => h) _ _ _ _ (h a _ e s.drew)))
theorem TC.cutX {c : Code} {X : Post} (M : Act → World → Prop) (h1 : TC P N B c E L { X with nrm := M }) (h2 : ∀ a w, M a w → X.nrm a w) : TC P N B c E L X := by
  intro a w e s
  refine wp_mono (h1 a w e s) ?_
  intro e a w q
  cases e <;> first | exact h2 a w q | exact q
theorem TA.nil (hr : Region.ready .any ops listed = []) (h : ∀ a w, EnvOk N E a → St B L w → Q a w) : TA P N B ops L0 n fuel listed E L Q := by
  intro a w e s
  cases fuel with
  | zero => exact ⟨hr, rfl, h a w e s⟩
  | succ fuel => exact ⟨fun _ => ⟨rfl, h a w e s⟩, by rw [hr]; simp⟩
theorem TA.code {y : Code} {X : Post} (hr : Region.ready .any ops listed = []) (h : TC P N B y E L X) : TA P N B ops L0 n fuel listed E L (fun a w => y.wp P X.q a w) := TA.nil hr h
theorem ready_after {md : Region.Mode} {listed : Array Bool} {i j : Nat} (hi : i ∈ Region.ready md ops listed) (hj : j ∈ Region.ready md ops listed) (h : Region.waitsFor md ops j i = true) : False := by
  obtain ⟨oj, hoj, e, he, hb, hon⟩ := Region.waitsFor_spec h
  obtain ⟨_, o', ho', hall⟩ := mem_ready.1 hj
  rw [hoj] at ho'
  obtain rfl := Option.some.inj ho'
  have h1 := hall e he hb
  have h0 := (mem_ready.1 hi).1
  rw [hon] at h1
  rcases Nat.lt_or_ge i listed.size with h' | h'
  · simp [h'] at h0 h1; rw [h0] at h1; cases h1
  · simp [Array.getElem?_eq_none h'] at h1
/-- An operation that reads what L0 speaks of. -/
theorem TA.take {d : Nat} {v : Value} (i : Nat) (hi : ops[i]? = some o) (hg : o.guard = none) (hdst : o.dst = some d) (hd : Nat.blt d N = true) (hs : StepS P N B o E L0 v)
    (hsel : Region.noSelect ops = true) (hf : Region.free .any ops listed i = true) (hr : (Region.ready .any ops listed).contains i = true) (hw : (Nat.ble ops.size n || Region.waitsFor .any ops n i) = true) (hn : listed.getD n false = false)
    (hL : ∀ h, Sat L h → Sat L0 h) (h : TA P N B ops L0 n fuel (listed.setIfInBounds i true) ((d, v) :: E) L Q) : TA P N B ops L0 n (fuel + 1) listed E L Q := by
  intro a w e s
  refine wpAnyI_first (S := St B L0) (Ok := fun l => l.getD n false = false) (v := v) hi (Region.noSelect_spec hsel) (fun c a w h => absurd h.1 (by simp)) ?_ fuel listed a w (Region.free_spec hi hf) hn (by simpa using hr) (.inl ⟨by simp [Region.wanted, hg], fun w hw => hs a w e hw⟩) (s.mono hL) (Inv.of (.inr hL) s) (by rw [hdst]; exact h _ _ (e.put hd v) s)
  intro l j hok hir hjr hji
  have hjn : j ≠ n := by
    intro hjn
    subst hjn
    rcases Bool.or_eq_true_iff.1 hw with hw | hw
    · obtain ⟨_, oj, hoj, _⟩ := mem_ready.1 hjr
      have := (Array.getElem?_eq_some_iff.1 hoj).1
      have := Nat.le_of_ble_eq_true hw
      omega
    · exact ready_after hir hjr hw
  have hs1 : (l.setIfInBounds j true).getD n false = false := by rw [getD_set_ne false hjn]; exact hok
  refine ⟨hs1, fun w' hI => ?_⟩
  by_cases hin : i = n
  · subst hin
    rcases Bool.or_eq_true_iff.1 hw with hw | hw
    · have := (Array.getElem?_eq_some_iff.1 hi).1
      have := Nat.le_of_ble_eq_true hw
      omega
    · exact (ready_after hir hir hw).elim
  · have hs2 : ((l.setIfInBounds i true).setIfInBounds j true).getD n false = false := by rw [getD_set_ne false hjn, getD_set_ne false hin]; exact hok
    have := hI.held hs2
    refine ⟨?_, this⟩
    unfold Inv; rw [if_neg (by simp [hs1])]; exact this
/-- An operation that reads no memory. -/
theorem TA.takeW {d : Nat} {v : Value} (i : Nat) (hi : ops[i]? = some o) (hg : o.guard = none) (hdst : o.dst = some d) (hd : Nat.blt d N = true) (hs : StepS P N B o E [] v)
    (hsel : Region.noSelect ops = true) (hf : Region.free .any ops listed i = true) (hr : (Region.ready .any ops listed).contains i = true) (hin : Nat.beq i n = false)
    (hL : listed.getD n false = true ∨ ∀ h, Sat L h → Sat L0 h) (h : TA P N B ops L0 n fuel (listed.setIfInBounds i true) ((d, v) :: E) L Q) : TA P N B ops L0 n (fuel + 1) listed E L Q := by
  have hin' : i ≠ n := fun e => by subst e; simp at hin
  intro a w e s
  refine wpAnyI_first (S := St B []) (Ok := fun _ => True) (v := v) hi (Region.noSelect_spec hsel) (fun c a w h => absurd h.1 (by simp)) ?_ fuel listed a w (Region.free_spec hi hf) trivial (by simpa using hr) (.inl ⟨by simp [Region.wanted, hg], fun w hw => hs a w e hw⟩) (s.mono fun _ _ => trivial) (Inv.of (by rw [getD_set_ne false hin']; exact hL) s) (by rw [hdst]; exact h _ _ (e.put hd v) s)
  intro l j _ hir hjr hji
  refine ⟨trivial, fun w' hI => ⟨?_, hI.free⟩⟩
  have : ((l.setIfInBounds i true).setIfInBounds j true).getD n false = (l.setIfInBounds j true).getD n false := by
    rw [Array.setIfInBounds_comm _ _ (Ne.symm hji), getD_set_ne false hin']
  unfold Inv at hI ⊢
  rw [this] at hI
  exact hI
theorem TA.all {rs : List Nat} (hr : Region.ready .any ops listed = rs) (hne : rs ≠ []) (h : ∀ i ∈ rs, TB P N B ops L0 n fuel listed E L Q i) : TA P N B ops L0 n (fuel + 1) listed E L Q :=
  fun a w e s => ⟨fun h0 => absurd (hr ▸ h0) hne, fun i hi => h i (hr ▸ hi) a w e s⟩
theorem TA.all1 {i : Nat} (hr : Region.ready .any ops listed = [i]) (h : TB P N B ops L0 n fuel listed E L Q i) : TA P N B ops L0 n (fuel + 1) listed E L Q :=
  TA.all hr (by simp) fun j hj => by have : j = i := by simpa using hj
                                     subst this; exact h
theorem TA.all2 {i j : Nat} (hr : Region.ready .any ops listed = [i, j]) (h1 : TB P N B ops L0 n fuel listed E L Q i) (h2 : TB P N B ops L0 n fuel listed E L Q j) : TA P N B ops L0 n (fuel + 1) listed E L Q :=
  TA.all hr (by simp) fun m hm => by
    rcases List.mem_cons.1 hm with rfl | hm
    · exact h1
    · rcases List.mem_cons.1 hm with rfl | hm
      · exact h2
      · cases hm
theorem TA.all3 {i j k : Nat} (hr : Region.ready .any ops listed = [i, j, k]) (h1 : TB P N B ops L0 n fuel listed E L Q i) (h2 : TB P N B ops L0 n fuel listed E L Q j) (h3 : TB P N B ops L0 n fuel listed E L Q k) : TA P N B ops L0 n (fuel + 1) listed E L Q :=
  TA.all hr (by simp) fun m hm => by
    rcases List.mem_cons.1 hm with rfl | hm
    · exact h1
    · rcases List.mem_cons.1 hm with rfl | hm
      · exact h2
      · rcases List.mem_cons.1 hm with rfl | hm
        · exact h3
        · cases hm
theorem TB.of {i : Nat} (hi : ops[i]? = some o)
    (h : TO P N B ops [o] E L (fun a' w' => Inv B L0 n (listed.setIfInBounds i true) w' ∧ wpAnyI P .any ops (fun e a w => e = .normal ∧ Q a w) (Inv B L0 n) fuel (listed.setIfInBounds i true) a' w')) : TB P N B ops L0 n fuel listed E L Q i := by
  intro a w e s
  have h1 := h a w e s
  unfold wpList at h1
  unfold wpOp
  simp only [hi]
  split
  · rename_i hw
    rw [if_pos hw] at h1
    rcases h1 with h1 | ⟨_, a0, w0, h0, _⟩
    · exact .inl (Oper.wp_mono2 (fun a w h => h.2) (fun e a w ne h => absurd h.1 ne) h1)
    · cases h0
  · rename_i hw
    rw [if_neg hw] at h1
    exact h1.2
theorem TA.back (hL : listed.getD n false = true ∨ ∀ h, Sat L h → Sat L0 h) (h : TA P N B ops L0 n fuel listed E L Q) :
    TO P N B ops [] E L (fun a' w' => Inv B L0 n listed w' ∧ wpAnyI P .any ops (fun e a w => e = .normal ∧ Q a w) (Inv B L0 n) fuel listed a' w') := TO.nil fun a w e s => ⟨Inv.of hL s, h a w e s⟩

/-- A slice's header is one cell. -/
theorem Rd.one {sz : Nat} {v : Value} {css : List (List Value)} {h : PH} (en : Ent L (Rd sz v css)) (s : Sat L h) : v.oneCell' = true ∧ v.cells = #[v] := by
  obtain ⟨h1, _, _, hr⟩ := en h s
  rcases hr with ⟨⟨ad, rfl⟩, _⟩ | ⟨b, o, cap, arr, el, fz, rfl, _⟩ <;> exact ⟨rfl, rfl⟩
end
end Go.Bk
