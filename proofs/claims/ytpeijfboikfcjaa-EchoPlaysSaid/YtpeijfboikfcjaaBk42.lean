/-
  What slices.Delete does with a slice that the call owns: a part of it appended to a part of it. Nothing of any program stands here.
-/
import Derived.Test.YtpeijfboikfcjaaBk36
namespace Go.Bk
open Go
set_option linter.unusedVariables false
set_option linter.unusedSimpArgs false
section
variable {P : Program} {N : Nat} {B : World} {E : Env} {L : List HP} {ops : Array Oper} {rest : List Oper} {Q : Act → World → Prop}
variable {d : Nat} {dd : Option Tmp} {ty : TypeId} {ps : String} {af : Array Edge} {gd : Option (Nat × Bool)}
def sub3 (v : Value) (i j m : Int) (sz : Nat) : Value := match v with
  | .slice a _ _ => .slice (if m.toNat = i.toNat then a else a.map (·.add (i.toNat * sz))) (j.toNat - i.toNat) (m.toNat - i.toNat)
  | v => v
/-- s[i:j:len(s)] -/
theorem StepS.slc3 {t e sz : Nat} {x lo hi mx : Operand} {v : Value} {α : Type} {f : α → List Value} {xs ys : List α} {i j : Int} (hx : opv E x = some v) (en : Ent L (Rd sz v (xs.map f))) (ht : sliceB P t e sz = true)
    (hlo : opv E lo = some (I i)) (hhi : opv E hi = some (I j)) (hmx : opv E mx = some (I (xs.length : Int))) (hs : slI xs i j = some ys) : StepS P N B ⟨dd, .slice t x (some lo) (some hi) (some mx), ty, ps, af, gd⟩ E L (sub3 v i j (xs.length : Int) sz) := by
  intro a w en' s
  obtain ⟨g, sg, hlen, hr⟩ := s.get en
  obtain ⟨hu, hsz⟩ := sliceB_spec ht
  obtain ⟨h0, h1, h2, _⟩ := slI_spec hs
  have key : ∀ (a0 : Option Addr) (len cap : Nat), v = .slice a0 len cap → xs.length = len → len ≤ cap → (execOp a.eval ⟨dd, .slice t x (some lo) (some hi) (some mx), ty, ps, af, gd⟩).run P w = .ok (.value (sub3 v i j (xs.length : Int) sz)) w := by
    intro a0 len cap hv hle hc
    subst hv
    have b1 : ∀ (k : IntKind) (c : BoundsCode), (Instr.sliceBound (.int k (xs.length : Int)) cap c).run P w = .ok xs.length w := fun k c => by
      have := run_bound (P := P) (v := .nilFunc) (k := k) (i := (xs.length : Int)) (y := cap) (by omega) (by omega) c w
      simpa using this
    have b2 : ∀ (k : IntKind) (c : BoundsCode), (Instr.sliceBound (.int k j) xs.length c).run P w = .ok j.toNat w := fun k c => run_bound (v := .nilFunc) (by omega) (by omega) c w
    have b3 : ∀ (k : IntKind) (c : BoundsCode), (Instr.sliceBound (.int k i) j.toNat c).run P w = .ok i.toNat w := fun k c => run_bound (v := .nilFunc) (by omega) (by omega) c w
    have hb : (Instr.sliceBounds true len cap (some (I i)) (some (I j)) (some (I (xs.length : Int)))).run P w = .ok (i.toNat, j.toNat, xs.length) w := by
      simp [Instr.sliceBounds, b1, b2, b3]
    simp [execOp, en'.eval hx, en'.eval hlo, en'.eval hhi, en'.eval hmx, Instr.sliceAt, Instr.slice, run_underlying hu, hb, run_sizeB hsz, sub3]
  rcases hr with ⟨⟨ad, hv⟩, hn⟩ | ⟨b, o, cap, arr, el, fz, hv, hc, _⟩
  · exact key ad 0 0 hv (by simpa using hn) (Nat.le_refl _)
  · exact key _ _ _ hv (by simp) (by simpa using hc)
/-- s[len(s):n] of what is left of an own slice -/
theorem StepS.slcX {t e sz : Nat} {x lo hi : Operand} {v : Value} {α : Type} {f : α → List Value} {xs : List α} {m : Int} (hx : opv E x = some (subv v 0 m sz)) (en : Ent L (Rd sz v (xs.map f))) (ht : sliceB P t e sz = true)
    (hlo : opv E lo = some (I m)) {n : Int} (hhi : opv E hi = some (I n)) (hn : n = (xs.length : Int)) (hm : 0 ≤ m ∧ m ≤ (xs.length : Int)) : StepS P N B ⟨dd, .slice t x (some lo) (some hi) none, ty, ps, af, gd⟩ E L (subv v m (xs.length : Int) sz) := by
  subst hn
  intro a w en' s
  obtain ⟨g, sg, hlen, hr⟩ := s.get en
  obtain ⟨hu, hsz⟩ := sliceB_spec ht
  have key : ∀ (a0 : Option Addr) (len cap : Nat), v = .slice a0 len cap → xs.length = len → len ≤ cap → (execOp a.eval ⟨dd, .slice t x (some lo) (some hi) none, ty, ps, af, gd⟩).run P w = .ok (.value (subv v m (xs.length : Int) sz)) w := by
    intro a0 len cap hv hle hc
    subst hv
    have b1 : ∀ (k : IntKind) (c : BoundsCode), (Instr.sliceBound (.int k (xs.length : Int)) cap c).run P w = .ok xs.length w := fun k c => by
      have := run_bound (P := P) (v := .nilFunc) (k := k) (i := (xs.length : Int)) (y := cap) (by omega) (by omega) c w
      simpa using this
    have b3 : ∀ (k : IntKind) (c : BoundsCode), (Instr.sliceBound (.int k m) xs.length c).run P w = .ok m.toNat w := fun k c => run_bound (v := .nilFunc) (by omega) (by omega) c w
    have hb : (Instr.sliceBounds true m.toNat cap (some (I m)) (some (I (xs.length : Int))) none).run P w = .ok (m.toNat, xs.length, cap) w := by
      simp [Instr.sliceBounds, b1, b3]
    have had : (if cap = 0 then a0 else a0.map (fun (q : Addr) => q.add (0 * sz))) = a0 := by
      split
      · rfl
      · cases a0 with
        | none => rfl
        | some q => simp [Addr.add]
    have hx' : opv E x = some (.slice a0 m.toNat cap) := by
      rw [hx]
      simp [subv] at had ⊢
      exact had
    simp [execOp, en'.eval hx', en'.eval hlo, en'.eval hhi, Instr.sliceAt, Instr.slice, run_underlying hu, hb, run_sizeB hsz, subv]
  rcases hr with ⟨⟨ad, hv⟩, hn⟩ | ⟨b, o, cap, arr, el, fz, hv, hc, _⟩
  · exact key ad 0 0 hv (by simpa using hn) (Nat.le_refl _)
  · exact key _ _ _ hv (by simp) (by simpa using hc)
theorem StepS.lenSub {t e sz : Nat} {x : Operand} {v : Value} {α : Type} {f : α → List Value} {xs : List α} {m : Int} (hx : opv E x = some (subv v 0 m sz)) (en : Ent L (Rd sz v (xs.map f))) (ht : sliceB P t e sz = true) (hm : 0 ≤ m ∧ m ≤ (xs.length : Int))
    {ts : Array TypeId} (hts : ts = #[t]) : StepS P N B ⟨dd, .call ⟨.builtin .len, #[x], ts⟩, ty, ps, af, gd⟩ E L (I m) := by
  have h : slI xs 0 m = some ((xs.take m.toNat).drop (0 : Int).toNat) := by unfold slI; rw [if_pos ⟨by omega, hm.1, hm.2⟩]
  have := StepS.lenm (dd := dd) (ty := ty) (ps := ps) (af := af) (gd := gd) (P := P) (N := N) (B := B) hx (Ent.sub en h) ht hts
  have e : ((((xs.take m.toNat).drop (0 : Int).toNat).length : Nat) : Int) = m := by simp; omega
  rw [e] at this
  exact this
theorem flat_take {sz : Nat} : ∀ {css : List (List Value)}, (∀ c ∈ css, c.length = sz) → ∀ n, (css.take n).flatten = css.flatten.take (n * sz)
  | [], _, n => by simp
  | c :: css, h, 0 => by simp
  | c :: css, h, n + 1 => by
    have hc := h c (by simp)
    have ih := flat_take (css := css) (fun d hd => h d (List.mem_cons_of_mem c hd)) n
    rw [List.take_succ_cons, List.flatten_cons, List.flatten_cons, ih, Nat.add_mul, List.take_append, Nat.one_mul, hc, Nat.add_sub_cancel, List.take_of_length_le (l := c) (by omega)]
theorem flat_drop {sz : Nat} {css : List (List Value)} (h : ∀ c ∈ css, c.length = sz) (n : Nat) : (css.drop n).flatten = css.flatten.drop (n * sz) := by
  have h1 : css.flatten = (css.take n).flatten ++ (css.drop n).flatten := by rw [← List.flatten_append, List.take_append_drop]
  rw [h1]
  by_cases hn : n ≤ css.length
  · have hl : (css.take n).flatten.length = n * sz := by rw [flat_len (fun c hc => h c (List.mem_of_mem_take hc)), List.length_take, Nat.min_eq_left hn]
    rw [← hl, List.drop_left]
  · have hd : css.drop n = [] := List.drop_eq_nil_of_le (by omega)
    rw [hd, List.flatten_nil, List.append_nil, List.drop_eq_nil_of_le]
    rw [flat_len (fun c hc => h c (List.mem_of_mem_take hc)), List.length_take]
    exact Nat.mul_le_mul_right _ (by omega)
/-- append(s[:i], s[j:]...) -/
theorem StepW.appIn {t e sz bytes k : Nat} {x y : Operand} {v : Value} {α : Type} {f : α → List Value} {l : List α} {i j : Int} (ht : elemB P t e sz bytes = true) (hij : 0 ≤ i ∧ i < j ∧ j ≤ (l.length : Int))
    (hx : opv E x = some (subv v 0 i sz)) (hy : opv E y = some (subv v j (l.length : Int) sz)) (hk : L[k]? = some (OwnS e sz v (l.map f))) (h1 : ∀ x, ∀ c ∈ f x, c.oneCell' = true) {ts : Array TypeId} (hts : ts = #[t, t]) :
    StepW P N B ⟨dd, .call ⟨.builtin .append, #[x, y], ts⟩, ty, ps, af, gd⟩ E L (fun u L' => u = subv v 0 (i + ((l.length : Int) - j)) sz ∧ L' = L.set k (OwnS e sz v ((l.take i.toNat ++ l.drop j.toNat ++ l.drop (i.toNat + (l.length - j.toNat))).map f))) := by
  subst hts
  obtain ⟨hu, ti, z, hti, hz, hs, hb, hzs⟩ := elemB_spec ht
  subst hs
  obtain ⟨i, rfl⟩ := Int.eq_ofNat_of_zero_le hij.1
  obtain ⟨j, rfl⟩ := Int.eq_ofNat_of_zero_le (show 0 ≤ j by omega)
  have hij : i < j ∧ j ≤ l.length := by omega
  refine StepW.of_run fun a w en s => ?_
  obtain ⟨hA, sA, hlA, hr⟩ := s.get (Ent.at k hk)
  rcases hr with ⟨⟨ad, rfl⟩, hl⟩ | ⟨g, og, cap, cur, rfl, hc, hm, hg, hsize, htk⟩
  · have : l = [] := by simpa using hl
    subst this
    simp at hij
    omega
  · have hgw := sA g _ hg
    simp only [List.length_map] at hc htk
    have hapos : cap ≠ 0 := by omega
    have hx' : subv (.slice (some ⟨g, og, none⟩) (l.map f).length cap) 0 (i : Int) ti.size = .slice (some ⟨g, og, none⟩) i cap := by
      simp [subv, Addr.add]
    have hy' : subv (.slice (some ⟨g, og, none⟩) (l.map f).length cap) (j : Int) (l.length : Int) ti.size = .slice (some (if cap = j then ⟨g, og, none⟩ else ⟨g, og + j * ti.size, none⟩)) (l.length - j) (cap - j) := by
      by_cases c : cap = j <;> simp [subv, c, add_lit]
    have hR : subv (.slice (some ⟨g, og, none⟩) (l.map f).length cap) 0 ((i : Int) + ((l.length : Int) - (j : Int))) ti.size = .slice (some ⟨g, og, none⟩) (i + (l.length - j)) cap := by
      have : ((i : Int) + ((l.length : Int) - (j : Int))).toNat = i + (l.length - j) := by omega
      simp [subv, Addr.add, this]
    rw [hx'] at hx
    rw [hy'] at hy
    rw [hR]
    generalize hF : (l.map f).flatten = F at htk
    have hFl : F.length = l.length * ti.size := by rw [← hF, flat_len hlA, List.length_map]
    have hnew : ((l.drop j).map f).flatten = F.drop (j * ti.size) := by rw [List.map_drop, flat_drop hlA, hF]
    have hnl : (F.drop (j * ti.size)).length = (l.length - j) * ti.size := by rw [List.length_drop, hFl, Nat.sub_mul]
    have hjl : j * ti.size ≤ l.length * ti.size := Nat.mul_le_mul_right _ hij.2
    have hcl : l.length * ti.size ≤ cap * ti.size := Nat.mul_le_mul_right _ hc
    have hil : i * ti.size + (l.length - j) * ti.size ≤ l.length * ti.size := by rw [← Nat.add_mul]; exact Nat.mul_le_mul_right _ (by omega)
    have hcur : ∀ q, q < l.length * ti.size → cur[og + q]? = F[q]? := fun q hq => by
      rw [← htk, List.getElem?_take, if_pos hq, List.getElem?_drop, Array.getElem?_toList]
    have hnews : ∀ q u, (F.drop (j * ti.size))[q]? = some u → w.cell? ((if cap = j then (⟨g, og, none⟩ : Addr) else ⟨g, og + j * ti.size, none⟩).add q) = some u := fun q u hq => by
      have hql : q < (l.length - j) * ti.size := by rw [← hnl]; exact (List.getElem?_eq_some_iff.1 hq).1
      have hne : cap ≠ j := fun c => by
        have : l.length - j = 0 := by omega
        rw [this, Nat.zero_mul] at hql
        omega
      have hs2 : (l.length - j) * ti.size = l.length * ti.size - j * ti.size := Nat.sub_mul _ _ _
      rw [if_neg hne, add_lit, cell_of hgw, Nat.add_assoc, hcur _ (by omega), ← hq, List.getElem?_drop]
    have h1' : ∀ c ∈ F.drop (j * ti.size), c.oneCell' = true := fun c hc => by
      rw [← hnew, List.mem_flatten] at hc
      obtain ⟨d, hd, hcd⟩ := hc
      rw [List.mem_map] at hd
      obtain ⟨x, hxm, rfl⟩ := hd
      exact h1 x c hcd
    have hrun := run_append_roomO (P := P) w t ty e ti hu hti g og i cap cur hgw (if cap = j then ⟨g, og, none⟩ else ⟨g, og + j * ti.size, none⟩) (l.length - j) (cap - j) (F.drop (j * ti.size)) hnl hnews h1' (by omega) (by rw [hnl]; omega)
    have hop : (execOp a.eval ⟨dd, .call ⟨.builtin .append, #[x, y], #[t, t]⟩, ty, ps, af, gd⟩).run P w = .ok (.value (.slice (some ⟨g, og, none⟩) (i + (l.length - j)) cap)) (w.setRow g (cur.toList.take (og + i * ti.size) ++ F.drop (j * ti.size) ++ cur.toList.drop (og + i * ti.size + (F.drop (j * ti.size)).length)).toArray) := by
      simp [execOp, resolve, invoke, builtin, en.eval hx, en.eval hy, hrun]
    refine ⟨_, _, _, hop, ⟨rfl, rfl⟩, s.os, s.tape, s.output, ?_⟩
    rw [hw_setRow hgw]
    have hlen2 : (l.take i ++ l.drop j ++ l.drop (i + (l.length - j))).length = l.length := by simp; omega
    have hallN : ∀ c ∈ (l.take i ++ l.drop j ++ l.drop (i + (l.length - j))).map f, c.length = ti.size := fun c hc => by
      rw [List.mem_map] at hc
      obtain ⟨y, hy, rfl⟩ := hc
      refine hlA _ (List.mem_map.2 ⟨y, ?_, rfl⟩)
      rw [List.mem_append, List.mem_append] at hy
      rcases hy with (hy | hy) | hy
      · exact List.mem_of_mem_take hy
      · exact List.mem_of_mem_drop hy
      · exact List.mem_of_mem_drop hy
    simp only [Int.toNat_natCast]
    refine (Sat.upd k hk s.sat fun g1 s1 ho => ⟨?_, hallN, .inr ⟨g, og, cap, _, by rw [List.length_map, List.length_map, hlen2], by rw [List.length_map, hlen2]; exact hc, hm, put_same _ _ _, ?_, ?_⟩⟩).1
    · rcases ho.2 with ⟨⟨a', he⟩, hnl'⟩ | ⟨g', og', cap'', cur', he, _, _, hg', _⟩
      · have : l = [] := by simpa using hnl'
        subst this
        simp at hij
        omega
      · cases he; rw [hg']; simp
    · simp only [List.size_toArray, List.length_append, List.length_take, List.length_drop, Array.length_toList, hnl, hFl]
      omega
    · rw [List.length_map, hlen2]
      have hdr : ∀ Z : List Value, (cur.toList.take (og + i * ti.size) ++ F.drop (j * ti.size) ++ Z).drop og = (cur.toList.drop og).take (i * ti.size) ++ F.drop (j * ti.size) ++ Z := fun Z => by
        rw [List.append_assoc, List.drop_append_of_le_length (by rw [List.length_take, Array.length_toList]; omega), List.drop_take, Nat.add_sub_cancel_left, List.append_assoc]
      have hT : cur.toList.drop og = F ++ (cur.toList.drop og).drop (l.length * ti.size) := by
        conv => lhs; rw [← List.take_append_drop (l.length * ti.size) (cur.toList.drop og)]
        rw [htk]
      rw [List.toList_toArray, hdr, Nat.add_assoc, ← List.drop_drop, hT, hnl]
      generalize (cur.toList.drop og).drop (l.length * ti.size) = T
      have e1 : (F ++ T).take (i * ti.size) = F.take (i * ti.size) := List.take_append_of_le_length (by omega)
      have e2 : (F ++ T).drop (i * ti.size + (l.length - j) * ti.size) = F.drop (i * ti.size + (l.length - j) * ti.size) ++ T := List.drop_append_of_le_length (by omega)
      rw [e1, e2, ← List.append_assoc]
      have hflat : ((l.take i ++ l.drop j ++ l.drop (i + (l.length - j))).map f).flatten = F.take (i * ti.size) ++ F.drop (j * ti.size) ++ F.drop (i * ti.size + (l.length - j) * ti.size) := by
        rw [List.map_append, List.map_append, List.flatten_append, List.flatten_append, hnew, List.map_take, flat_take hlA, hF, List.map_drop, flat_drop hlA, hF, Nat.add_mul]
      rw [hflat]
      have hl3 : (F.take (i * ti.size) ++ F.drop (j * ti.size) ++ F.drop (i * ti.size + (l.length - j) * ti.size)).length = l.length * ti.size := by
        rw [List.length_append, List.length_append, hnl, List.length_take, List.length_drop, hFl]; omega
      rw [← hl3]
      exact List.take_left
theorem TO.appIn {t e sz bytes : Nat} {x y : Operand} {v : Value} {α : Type} {f : α → List Value} {l : List α} {i j : Int} (k : Nat) (ht : elemB P t e sz bytes = true) (hij : 0 ≤ i ∧ i < j ∧ j ≤ (l.length : Int))
    (hx : opv E x = some (subv v 0 i sz)) (hy : opv E y = some (subv v j (l.length : Int) sz)) (hk : L[k]? = some (OwnS e sz v (l.map f))) (h1 : ∀ x, ∀ c ∈ f x, c.oneCell' = true) {ts : Array TypeId} (hts : ts = #[t, t]) (hd : Nat.blt d N = true)
    (h : TO P N B ops rest ((d, subv v 0 (i + ((l.length : Int) - j)) sz) :: E) (L.set k (OwnS e sz v ((l.take i.toNat ++ l.drop j.toNat ++ l.drop (i.toNat + (l.length - j.toNat))).map f))) Q) : TO P N B ops (⟨some d, .call ⟨.builtin .append, #[x, y], ts⟩, ty, ps, af, none⟩ :: rest) E L Q :=
  TO.step rfl rfl hd (StepW.appIn ht hij hx hy hk h1 hts) fun u L' ⟨hu, hL⟩ => by subst hu; subst hL; exact h
end
theorem idx_seti {α : Type} {xs : List α} {i : Int} {x : α} (h : idx xs i = some x) (y : α) : idx (xs.set i.toNat y) i = some y := by
  obtain ⟨h0, h1⟩ := idx_spec h
  obtain ⟨n, rfl⟩ := Int.eq_ofNat_of_zero_le h0
  rw [idx_nat]
  simp only [Int.toNat_natCast] at h1 ⊢
  exact List.getElem?_set_self (List.getElem?_eq_some_iff.1 h1).1
/-- slices.Delete -/
def delM {α : Type} (l : List α) (i j : Int) : Option (List α) := Option.bind (slI l i j) fun _ => cond (i == j) (some l) (some (l.take i.toNat ++ l.drop j.toNat))
theorem del_len {α : Type} {l : List α} {i j : Int} (hij : 0 ≤ i ∧ i < j ∧ j ≤ (l.length : Int)) : (l.take i.toNat ++ l.drop j.toNat ++ l.drop (i.toNat + (l.length - j.toNat))).length = l.length := by simp; omega
theorem del_fin {α : Type} {l : List α} {i j : Int} (hij : 0 ≤ i ∧ i < j ∧ j ≤ (l.length : Int)) (rep : List α) :
    slI ((l.take i.toNat ++ l.drop j.toNat ++ l.drop (i.toNat + (l.length - j.toNat))).take (i + ((l.length : Int) - j)).toNat ++ rep) 0 (i + ((l.length : Int) - j)) = some (l.take i.toNat ++ l.drop j.toNat) := by
  have h1 : (l.take i.toNat ++ l.drop j.toNat).length = (i + ((l.length : Int) - j)).toNat := by simp; omega
  have h2 : (l.take i.toNat ++ l.drop j.toNat ++ l.drop (i.toNat + (l.length - j.toNat))).take (i + ((l.length : Int) - j)).toNat = l.take i.toNat ++ l.drop j.toNat := by rw [← h1]; exact List.take_left
  rw [h2]
  unfold slI
  rw [if_pos ⟨by omega, by omega, by rw [List.length_append, h1]; omega⟩, ← h1, List.take_left]
  simp
end Go.Bk
