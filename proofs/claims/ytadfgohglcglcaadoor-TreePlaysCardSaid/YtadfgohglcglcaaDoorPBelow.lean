/-
  Parents and what stands below a name: the program and the reference tell the same.
-/
import Derived.Test.YtadfgohglcglcaaDoorPName
import Derived.Sort.Walk0
namespace Go.Proofs.YtadfgohglcglcaaDoor
open Go Go.Bk
set_option linter.unusedVariables false
set_option linter.unusedSimpArgs false
theorem last_ex {p : ByteArray} {cs : List UInt8} (hp : bl p = 47 :: cs) (hs : p.size ≤ 9223372036854775807) : ∀ k, k < p.size → ∃ i, i ≤ k ∧ (bl p)[i]? = some 47 ∧ whileM (F55_L0 p 47) (k : Int) = some (.ret (i : Int)) ∧ whileM (F32_L0 p) (k : Int) = some (.brk (i : Int)) := by
  intro k
  induction k with
  | zero =>
    intro hk
    have hg : (bl p)[0]? = some 47 := by rw [hp]; rfl
    have e : decide (((0 : Nat) : Int) ≥ 0) = true := rfl
    refine ⟨0, Nat.le_refl _, hg, whileM_ret ?_, whileM_brk ?_⟩
    · simp only [F55_L0, e, cond_true, sidx_at hg, Option.bind_some]; rfl
    · simp only [F32_L0, sidx_at hg, Option.bind_some]; rfl
  | succ k ih =>
    intro hk
    have hl : k + 1 < (bl p).length := by rw [bl_len]; exact hk
    have hg : (bl p)[k + 1]? = some (bl p)[k + 1] := List.getElem?_eq_getElem hl
    have e : decide (((k + 1 : Nat) : Int) ≥ 0) = true := by rw [decide_eq_true_eq]; omega
    have hw : w64 (((k + 1 : Nat) : Int) - 1) = ((k : Nat) : Int) := by rw [w64_of (by omega) (by omega)]; omega
    generalize (bl p)[k + 1] = c at hg
    by_cases hc : c = 47
    · subst hc
      refine ⟨k + 1, Nat.le_refl _, hg, whileM_ret ?_, whileM_brk ?_⟩
      · simp only [F55_L0, e, cond_true, sidx_at hg, Option.bind_some]; rfl
      · simp only [F32_L0, sidx_at hg, Option.bind_some]; rfl
    · obtain ⟨i, h1, h2, h3, h4⟩ := ih (by omega)
      have hu := u47 c
      rw [decide_eq_false hc] at hu
      refine ⟨i, by omega, h2, ?_, ?_⟩
      · rw [whileM_nxt (s' := (k : Int)) ?_, h3]
        simp only [F55_L0, e, cond_true, sidx_at hg, Option.bind_some, hu, cond_false, hw]
      · rw [whileM_nxt (s' := (k : Int)) ?_, h4]
        have hu2 : ((c.toNat : Int) != 47) = true := by rw [bne, hu]; rfl
        simp only [F32_L0, sidx_at hg, Option.bind_some, hu2, cond_true, hw]
theorem name_cons {p : ByteArray} (h : nameB p = true) : ∃ cs, bl p = 47 :: cs := by
  unfold nameB at h
  cases hp : bl p with
  | nil => rw [hp] at h; cases h
  | cons c cs =>
    rw [hp] at h
    by_cases hc : c = 47
    · exact ⟨cs, by rw [hc]⟩
    · simp [hc] at h
/-- The parent, and the last part. -/
noncomputable def prt (p : ByteArray) : ByteArray × ByteArray := (F42 p).getD (ByteArray.empty, ByteArray.empty)
/-- A name as it may be. -/
structure OkN (p : ByteArray) : Prop where
  nm : nameB p = true
  sz : p.size ≤ 9223372036854775807
theorem prt_val {p : ByteArray} (h : OkN p) : F42 p = some (prt p) ∧ F32 p = some (prt p) := by
  have hb := h.sz
  obtain ⟨cs, hp⟩ := name_cons h.nm
  have hl : p.size = cs.length + 1 := by rw [← bl_len, hp]; rfl
  have hz : (0 : Int) < (p.size : Int) := by omega
  obtain ⟨i, h1, h2, h3, h4⟩ := last_ex hp (by omega) (p.size - 1) (by omega)
  have hs : w64 ((p.size : Int) - 1) = ((p.size - 1 : Nat) : Int) := by rw [w64_of (by omega) (by omega)]; omega
  have hi : i < p.size := by omega
  have hi1 : w64 ((i : Int) + 1) = ((i + 1 : Nat) : Int) := w64_succ hi (by omega)
  have hx5 : sslc p ((i + 1 : Nat) : Int) (p.size : Int) = some (p.extract (i + 1) p.size) := sslc_at (by omega) (by omega)
  have key : ∃ r, F42 p = some r ∧ F32 p = some r := by
    unfold F42 F49 F55 F32
    rw [hs, h3, h4]
    simp only [Option.bind_some, Ctl.on, hi1, hx5]
    by_cases c : i = 0
    · subst c
      have e0 : (((0 : Nat) : Int) == 0) = true := rfl
      have e1 : mx ((0 : Nat) : Int) 1 = ((1 : Nat) : Int) := rfl
      have e2 : sslc p 0 ((1 : Nat) : Int) = some (p.extract 0 1) := sslc_at (a := 0) (by omega) (by omega)
      have e3 : sslc p 1 (p.size : Int) = some (p.extract 1 p.size) := sslc_at (a := 1) (by omega) (by omega)
      have e4 : p.extract 0 1 = ByteArray.mk #[47] := by apply bl_inj; rw [bl_extract, hp]; rfl
      rw [e0, e1, e2, e3, e4]
      exact ⟨_, rfl, rfl⟩
    · have e0 : ((i : Int) == 0) = false := by rw [beq_eq_false_iff_ne]; omega
      have e1 : mx (i : Int) 1 = (i : Int) := by unfold mx; split <;> omega
      have e2 : sslc p 0 (i : Int) = some (p.extract 0 i) := sslc_at (a := 0) (by omega) (by omega)
      rw [e0, e1, e2]
      exact ⟨_, rfl, rfl⟩
  obtain ⟨r, k1, k2⟩ := key
  have : prt p = r := by unfold prt; rw [k1]; rfl
  rw [this]
  exact ⟨k1, k2⟩

/-! Sorting. -/
theorem sLt_iff (x y : ByteArray) : sLt x y = decide (bl x < bl y) := by
  unfold sLt
  rw [ByteArray.toList_eq, ByteArray.toList_eq]
  exact Go.Proofs.bytesLess_eq _ _
def insD (x : ByteArray) : List ByteArray → List ByteArray
  | [] => [x]
  | z :: rs => if sLt x z = true then z :: insD x rs else x :: z :: rs
theorem insD_perm (x : ByteArray) : ∀ rs, (insD x rs).Perm (x :: rs)
  | [] => List.Perm.refl _
  | z :: rs => by
    unfold insD
    split
    · exact ((insD_perm x rs).cons z).trans (List.Perm.swap x z rs)
    · exact List.Perm.refl _
def Dsc (rs : List ByteArray) : Prop := rs.Pairwise fun a b => bl b ≤ bl a
theorem insD_dsc {x : ByteArray} : ∀ {rs : List ByteArray}, Dsc rs → Dsc (insD x rs)
  | [], _ => List.pairwise_singleton _ _
  | z :: rs, h => by
    obtain ⟨h1, h2⟩ := List.pairwise_cons.1 h
    unfold insD
    split
    · rename_i c
      rw [sLt_iff, decide_eq_true_eq] at c
      refine List.pairwise_cons.2 ⟨fun y hy => ?_, insD_dsc h2⟩
      rcases List.mem_cons.1 ((insD_perm x rs).mem_iff.1 hy) with rfl | hy
      · exact List.le_of_lt c
      · exact h1 y hy
    · rename_i c
      rw [sLt_iff, decide_eq_true_eq] at c
      have hz : bl z ≤ bl x := List.not_lt.1 c
      refine List.pairwise_cons.2 ⟨fun y hy => ?_, h⟩
      rcases List.mem_cons.1 hy with rfl | hy
      · exact hz
      · exact List.le_trans (h1 y hy) hz
theorem dsc_sorted {rs c : List ByteArray} (h : Dsc rs) (hp : rs.Perm c) : rs.reverse = sortedS c := by
  unfold sortedS
  have tr : ∀ a b c : List UInt8, decide (a ≤ b) = true → decide (b ≤ c) = true → decide (a ≤ c) = true := fun a b c h1 h2 => by simp only [decide_eq_true_eq] at *; exact List.le_trans h1 h2
  have to : ∀ a b : List UInt8, (decide (a ≤ b) || decide (b ≤ a)) = true := fun a b => by simp only [Bool.or_eq_true, decide_eq_true_eq]; exact List.le_total a b
  have e : (rs.reverse).map bl = (c.map bl).mergeSort fun x y => decide (x ≤ y) := by
    refine List.Perm.eq_of_pairwise (le := fun a b => decide (a ≤ b) = true) (fun a b _ _ h1 h2 => ?_) ?_ (List.pairwise_mergeSort tr to _) ((((List.reverse_perm rs).trans hp).map bl).trans (List.mergeSort_perm _ _).symm)
    · simp only [decide_eq_true_eq] at h1 h2
      exact List.le_antisymm h1 h2
    · rw [List.pairwise_map, List.pairwise_reverse]
      exact h.imp fun q => by rw [decide_eq_true_eq]; exact q
  rw [← e, List.map_map]
  have : (lb ∘ bl) = id := funext lb_bl
  rw [this, List.map_id]
theorem f41_l2 : ∀ (rp : List ByteArray) (x : ByteArray) (tl : List ByteArray), rp.length ≤ 1000 → whileM F41_L2 (rp.reverse ++ x :: tl, (rp.length : Int)) = some (.brk ((insD x rp).reverse ++ tl))
  | [], x, tl, h => by
    refine whileM_brk ?_
    have e : decide ((([] : List ByteArray).length : Int) > 0) = false := rfl
    simp only [F41_L2, e, cond_false, Option.bind_some]
    rfl
  | z :: rs, x, tl, h => by
    have hl : rs.length ≤ 1000 := by simp at h; omega
    have e : decide ((((z :: rs).length : Nat) : Int) > 0) = true := by rw [decide_eq_true_eq]; simp
    have hy : (z :: rs).reverse ++ x :: tl = rs.reverse ++ z :: x :: tl := by simp
    have hn : (z :: rs).length = rs.length + 1 := rfl
    have i1 : idx (rs.reverse ++ z :: x :: tl) ((rs.length + 1 : Nat) : Int) = some x := idx_some (by rw [List.getElem?_append_right (by simp)]; simp)
    have i2 : idx (rs.reverse ++ z :: x :: tl) ((rs.length : Nat) : Int) = some z := idx_some (by rw [List.getElem?_append_right (by simp)]; simp)
    have hw : w64 (((rs.length + 1 : Nat) : Int) - 1) = ((rs.length : Nat) : Int) := by rw [w64_of (by omega) (by omega)]; omega
    rw [hy, hn]
    unfold insD
    have hb : F41_L2 (rs.reverse ++ z :: x :: tl, ((rs.length + 1 : Nat) : Int)) = (if sLt x z = true then some (.nxt (rs.reverse ++ x :: z :: tl, (rs.length : Int))) else some (.brk (rs.reverse ++ z :: x :: tl))) := by
      rw [hn] at e
      simp only [F41_L2, e, cond_true, i1, i2, hw, Option.bind_some]
      cases c : sLt x z with
      | false => rfl
      | true =>
        have s1 : (rs.reverse ++ z :: x :: tl).set (rs.length + 1) z = rs.reverse ++ z :: z :: tl := by
          rw [List.set_append, if_neg (by simp)]; simp
        have s2 : (rs.reverse ++ z :: z :: tl).set rs.length x = rs.reverse ++ x :: z :: tl := by
          rw [List.set_append]; simp
        have i3 : idx (rs.reverse ++ z :: z :: tl) ((rs.length : Nat) : Int) = some z := idx_some (by rw [List.getElem?_append_right (by simp)]; simp)
        simp only [cond_true, Int.toNat_natCast, s1, i3, s2, Option.bind_some, if_true]
    by_cases c : sLt x z = true
    · rw [if_pos c] at hb
      rw [whileM_nxt hb, f41_l2 rs x (z :: tl) hl, if_pos c]
      simp
    · rw [if_neg c] at hb
      rw [whileM_brk hb, if_neg c]
      simp
def dsc (c : List ByteArray) : List ByteArray := c.foldl (fun rs x => insD x rs) []
theorem dsc_snoc (c : List ByteArray) (x : ByteArray) : dsc (c ++ [x]) = insD x (dsc c) := by unfold dsc; rw [List.foldl_append]; rfl
theorem dsc_fold : ∀ (c rs : List ByteArray), Dsc rs → Dsc (c.foldl (fun rs x => insD x rs) rs) ∧ (c.foldl (fun rs x => insD x rs) rs).Perm (c ++ rs)
  | [], rs, h => ⟨h, List.Perm.refl _⟩
  | x :: c, rs, h => by
    obtain ⟨h1, h2⟩ := dsc_fold c (insD x rs) (insD_dsc h)
    refine ⟨h1, h2.trans ?_⟩
    exact ((insD_perm x rs).append_left c).trans List.perm_middle
theorem dsc_ok (c : List ByteArray) : Dsc (dsc c) ∧ (dsc c).Perm c := by
  have := dsc_fold c [] List.Pairwise.nil
  rwa [List.append_nil] at this
theorem f41_sort {c : List ByteArray} (hl : c.length ≤ 1000) : whileM F41_L1 (c, 1) = some (.brk (sortedS c)) := by
  have hfin : (dsc c).reverse = sortedS c := dsc_sorted (dsc_ok c).1 (dsc_ok c).2
  by_cases h0 : c = []
  · subst h0
    refine whileM_brk ?_
    have e : decide ((1 : Int) < ((([] : List ByteArray).length : Nat) : Int)) = false := rfl
    simp only [F41_L1, e, cond_false]
    rw [← hfin]; rfl
  · have h1 : 0 < c.length := List.length_pos_iff.2 h0
    have hst : ((fun (k : Nat) => ((dsc (c.take (k + 1))).reverse ++ c.drop (k + 1), ((k + 1 : Nat) : Int))) 0) = (c, 1) := by
      match c, h0 with
      | x :: cs, _ => simp [dsc, insD]
    rw [← hst]
    refine while_upto (fun (k : Nat) => ((dsc (c.take (k + 1))).reverse ++ c.drop (k + 1), ((k + 1 : Nat) : Int))) (c.length - 1) (fun k hk => ?_) ?_ (fun s h => by cases h)
    · have hlen : ((dsc (c.take (k + 1))).reverse ++ c.drop (k + 1)).length = c.length := by
        rw [List.length_append, List.length_reverse, (dsc_ok _).2.length_eq, List.length_take, List.length_drop]; omega
      have e : decide (((k + 1 : Nat) : Int) < ((((dsc (c.take (k + 1))).reverse ++ c.drop (k + 1)).length : Nat) : Int)) = true := by rw [hlen, decide_eq_true_eq]; omega
      have hd : c.drop (k + 1) = c[k + 1] :: c.drop (k + 1 + 1) := (List.getElem_cons_drop (by omega)).symm
      have hn : ((dsc (c.take (k + 1))).length : Int) = ((k + 1 : Nat) : Int) := by rw [(dsc_ok _).2.length_eq, List.length_take]; omega
      have hin := f41_l2 (dsc (c.take (k + 1))) c[k + 1] (c.drop (k + 1 + 1)) (by rw [(dsc_ok _).2.length_eq, List.length_take]; omega)
      rw [hn, ← hd] at hin
      have ht : c.take (k + 1 + 1) = c.take (k + 1) ++ [c[k + 1]] := by rw [List.take_add_one, List.getElem?_eq_getElem (by omega)]; rfl
      have hw : w64 (((k + 1 : Nat) : Int) + 1) = ((k + 1 + 1 : Nat) : Int) := w64_succ (n := c.length) (by omega) (by omega)
      simp only [F41_L1, e, cond_true, hin, Option.bind_some, Ctl.on, hw, ht, dsc_snoc]
    · have hlen : ((dsc (c.take (c.length - 1 + 1))).reverse ++ c.drop (c.length - 1 + 1)) = (dsc c).reverse := by
        rw [Nat.sub_add_cancel h1, List.take_length, List.drop_length, List.append_nil]
      have e : decide (((c.length - 1 + 1 : Nat) : Int) < (((dsc c).reverse.length : Nat) : Int)) = false := by
        rw [List.length_reverse, (dsc_ok _).2.length_eq, decide_eq_false_iff_not]; omega
      rw [hfin] at e hlen
      simp only [hlen, F41_L1, e, cond_false]
end Go.Proofs.YtadfgohglcglcaaDoor
