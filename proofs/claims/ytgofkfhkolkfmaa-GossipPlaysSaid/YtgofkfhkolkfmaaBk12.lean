/-
  Own slices that are cut at the end; own slices that a callee takes over. Nothing of any program stands here.
-/
import Derived.Test.YtgofkfhkolkfmaaBk11
namespace Go.Bk
open Go
set_option linter.unusedVariables false
set_option linter.unusedSimpArgs false

theorem Sat.at {A A' : HP} : ∀ {L : List HP} (k : Nat) {h : PH}, L[k]? = some A → (∀ g, A g → A' g) → Sat L h → Sat (L.set k A') h
  | [], _, _, hk, _, _ => by simp at hk
  | B :: L, 0, h, hk, f, ⟨h1, h2, d, s1, s2, a, r⟩ => by
    simp at hk; subst hk
    exact ⟨h1, h2, d, s1, s2, f _ a, r⟩
  | B :: L, k + 1, h, hk, f, ⟨h1, h2, d, s1, s2, a, r⟩ => ⟨h1, h2, d, s1, s2, a, Sat.at k (by simpa using hk) f r⟩
/-- The first part of an own slice is an own slice. -/
theorem OwnS.cut {e sz : Nat} {v : Value} {α : Type} {f : α → List Value} {xs ys : List α} {i : Int} (hs : slI xs 0 i = some ys) : ∀ g, OwnS e sz v (xs.map f) g → OwnS e sz (subv v 0 i sz) (ys.map f) g := by
  obtain ⟨_, h1, h2, rfl⟩ := slI_spec hs
  intro g ⟨hl, hr⟩
  have hys : ((xs.take i.toNat).drop (0 : Int).toNat) = xs.take i.toNat := by simp
  rw [hys]
  have hall : ∀ c ∈ (xs.take i.toNat).map f, c.length = sz := fun c hc => by
    rw [List.mem_map] at hc
    obtain ⟨x, hx, rfl⟩ := hc
    exact hl _ (List.mem_map.2 ⟨x, List.mem_of_mem_take hx, rfl⟩)
  have hlen : ((xs.take i.toNat).map f).length = i.toNat := by simp; omega
  refine ⟨hall, ?_⟩
  rcases hr with ⟨⟨ad, rfl⟩, hx⟩ | ⟨b, og, cap, cur, rfl, hc, hm, hb, hsz, htk⟩
  · left
    have : xs = [] := by simpa using hx
    subst this
    simp at h2
    have : i = 0 := by omega
    subst this
    simp [subv]
  · right
    simp at hc htk
    refine ⟨b, og, cap, cur, ?_, by rw [hlen]; omega, hm, hb, hsz, ?_⟩
    · rw [hlen]; simp [subv, add_lit]
    · rw [hlen]
      have hsplit : (xs.map f).flatten = ((xs.take i.toNat).map f).flatten ++ ((xs.drop i.toNat).map f).flatten := by
        rw [← List.flatten_append, ← List.map_append, List.take_append_drop]
      have hfl : ((xs.take i.toNat).map f).flatten.length = i.toNat * sz := by rw [flat_len hall, hlen]
      have hle : i.toNat * sz ≤ xs.length * sz := Nat.mul_le_mul_right _ (by omega)
      have : (cur.toList.drop og).take (i.toNat * sz) = ((cur.toList.drop og).take (xs.length * sz)).take (i.toNat * sz) := by rw [List.take_take, Nat.min_eq_left hle]
      rw [this, htk, hsplit, ← hfl]
      exact List.take_left
/-- The last part of an own slice is an own slice. -/
theorem OwnS.cutF {e sz : Nat} {v : Value} {α : Type} {f : α → List Value} {xs ys : List α} {i : Int} (hs : slI xs i (xs.length : Int) = some ys) : ∀ g, OwnS e sz v (xs.map f) g → OwnS e sz (subv v i (xs.length : Int) sz) (ys.map f) g := by
  obtain ⟨h0, h1, _, rfl⟩ := slI_spec hs
  intro g ⟨hl, hr⟩
  have hys : ((xs.take (xs.length : Int).toNat).drop i.toNat) = xs.drop i.toNat := by simp
  rw [hys]
  have hall : ∀ c ∈ (xs.drop i.toNat).map f, c.length = sz := fun c hc => by
    rw [List.mem_map] at hc
    obtain ⟨x, hx, rfl⟩ := hc
    exact hl _ (List.mem_map.2 ⟨x, List.mem_of_mem_drop hx, rfl⟩)
  have hlen : ((xs.drop i.toNat).map f).length = xs.length - i.toNat := by simp
  refine ⟨hall, ?_⟩
  rcases hr with ⟨⟨ad, rfl⟩, hx⟩ | ⟨b, og, cap, cur, rfl, hc, hm, hb, hsz, htk⟩
  · left
    have : xs = [] := by simpa using hx
    subst this
    simp at h1
    have : i = 0 := by omega
    subst this
    simp [subv]
  · simp at hc htk
    by_cases hcl : cap = i.toNat
    · left
      have hle : i.toNat = xs.length := by omega
      refine ⟨⟨some ⟨b, og, none⟩, ?_⟩, ?_⟩
      · simp [subv, hcl]; omega
      · rw [List.map_eq_nil_iff, List.drop_eq_nil_iff]; omega
    · right
      refine ⟨b, og + i.toNat * sz, cap - i.toNat, cur, ?_, by rw [hlen]; omega, by omega, hb, ?_, ?_⟩
      · rw [hlen]; simp [subv, hcl, add_lit]
      · have : i.toNat * sz + (cap - i.toNat) * sz = cap * sz := by rw [← Nat.add_mul]; congr 1; omega
        omega
      · rw [hlen]
        have hsplit : (xs.map f).flatten = ((xs.take i.toNat).map f).flatten ++ ((xs.drop i.toNat).map f).flatten := by
          rw [← List.flatten_append, ← List.map_append, List.take_append_drop]
        have hallT : ∀ c ∈ (xs.take i.toNat).map f, c.length = sz := fun c hc => by
          rw [List.mem_map] at hc; obtain ⟨x, hx, rfl⟩ := hc; exact hl _ (List.mem_map.2 ⟨x, List.mem_of_mem_take hx, rfl⟩)
        have hfl : ((xs.take i.toNat).map f).flatten.length = i.toNat * sz := by rw [flat_len hallT]; congr 1; simp; omega
        have h2 := congrArg (List.drop (i.toNat * sz)) htk
        rw [hsplit, List.drop_left' hfl, List.drop_take, List.drop_drop] at h2
        rw [← h2, Nat.sub_mul]
theorem Sat.cutF {L : List HP} {h : PH} {e sz : Nat} {v : Value} {α : Type} {f : α → List Value} {xs ys : List α} {i : Int} (k : Nat) (hk : L[k]? = some (OwnS e sz v (xs.map f))) (hs : slI xs i (xs.length : Int) = some ys) (s : Sat L h) :
    Sat (L.set k (OwnS e sz (subv v i (xs.length : Int) sz) (ys.map f))) h := Sat.at k hk (OwnS.cutF hs) s
theorem Sat.cutO {L : List HP} {h : PH} {e sz : Nat} {v : Value} {α : Type} {f : α → List Value} {xs ys : List α} {i : Int} (k : Nat) (hk : L[k]? = some (OwnS e sz v (xs.map f))) (hs : slI xs 0 i = some ys) (s : Sat L h) :
    Sat (L.set k (OwnS e sz (subv v 0 i sz) (ys.map f))) h := Sat.at k hk (OwnS.cut hs) s

section
variable {P : Program} {N : Nat} {B : World} {E : Env} {L : List HP} {ops : Array Oper} {rest : List Oper} {Q : Act → World → Prop}
variable {d : Nat} {dd : Option Tmp} {ty : TypeId} {ps : String} {af : Array Edge} {gd : Option (Nat × Bool)}

theorem zero_flat (z : Array Value) (n : Nat) (h0 : 0 < z.size) : (Builtin.zeroCells z n).toList = (List.replicate n z.toList).flatten := by
  rw [← made_flat z n h0]; rfl
/-- clear(s[i:]) -/
theorem StepW.clearO {t e sz bytes k : Nat} {x : Operand} {v : Value} {α : Type} {f : α → List Value} {l : List α} {za : α} {z : Value} {i : Int} (ht : elemB P t e sz bytes = true) (hsz : 0 < sz) (hz : (P.info? e).bind (·.zero) = some z) (hcz : z.cells = (f za).toArray)
    (h1 : ∀ c ∈ f za, c.oneCell' = true) (hi : 0 ≤ i ∧ i ≤ (l.length : Int)) (hx : opv E x = some (subv v i (l.length : Int) sz)) (hk : L[k]? = some (OwnS e sz v (l.map f))) {ts : Array TypeId} (hts : ts = #[t]) :
    StepW P N B ⟨dd, .call ⟨.builtin .clear, #[x], ts⟩, ty, ps, af, gd⟩ E L (fun u L' => u = .tuple #[] ∧ L' = L.set k (OwnS e sz v ((l.take i.toNat ++ List.replicate (l.length - i.toNat) za).map f))) := by
  subst hts
  obtain ⟨hu, ti, z', hti, hz', hs, hb, hzs⟩ := elemB_spec ht
  rw [hti] at hz
  have : z' = z := by rw [Option.bind_some, hz'] at hz; exact Option.some.inj hz
  subst this
  refine StepW.of_run fun a w en s => ?_
  have hop : ∀ w', (Builtin.clear_ #[t] ty #[subv v i (l.length : Int) sz]).run P w = .ok (.tuple #[]) w' → (execOp a.eval ⟨dd, .call ⟨.builtin .clear, #[x], #[t]⟩, ty, ps, af, gd⟩).run P w = .ok (.value (.tuple #[])) w' := fun w' hr => by
    simp [execOp, resolve, invoke, builtin, en.eval hx, hr]
  obtain ⟨hA, sA, hlA, hr⟩ := s.get (Ent.at k hk)
  by_cases hn : l.length - i.toNat = 0
  · -- nothing is left to clear
    have hsame : (l.take i.toNat ++ List.replicate (l.length - i.toNat) za) = l := by rw [hn, List.take_of_length_le (by omega)]; simp
    rw [hsame, set_same hk]
    have hlen0 : ((l.length : Int).toNat - i.toNat) = 0 := by simpa using hn
    refine ⟨_, _, w, hop w ?_, ⟨rfl, rfl⟩, s⟩
    have hz0 : ∀ (a : Option Addr) (c : Nat), (Builtin.clear_ #[t] ty #[.slice a 0 c]).run P w = .ok (.tuple #[]) w := fun a c => by
      cases a <;> simp [Builtin.clear_, run_underlying hu]
    rcases hr with ⟨⟨ad, rfl⟩, _⟩ | ⟨g, og, cap, cur, rfl, _⟩
    · simp only [subv, hlen0]; exact hz0 _ _
    · simp only [subv, hlen0]; exact hz0 _ _
  · rcases hr with ⟨⟨ad, rfl⟩, hl⟩ | ⟨g, og, cap, cur, rfl, hc, hm, hg, hsize, htk⟩
    · have : l = [] := by simpa using hl
      subst this
      simp at hn
    · have hgw := sA g _ hg
      simp only [List.length_map] at hc htk
      have hfz : (f za).length = sz := by rw [← hzs, hcz]; simp
      have hus : (Builtin.zeroCells z'.cells (l.length - i.toNat)).toList = (List.replicate (l.length - i.toNat) (f za)).flatten := by
        rw [zero_flat _ _ (by omega), hcz]
      have hall2 : ∀ c ∈ List.replicate (l.length - i.toNat) (f za), c.length = sz := fun c hc => by rw [(List.mem_replicate.1 hc).2]; exact hfz
      have hul : (List.replicate (l.length - i.toNat) (f za)).flatten.length = (l.length - i.toNat) * sz := by rw [flat_len hall2, List.length_replicate]
      have h1' : ∀ c ∈ (List.replicate (l.length - i.toNat) (f za)).flatten, c.oneCell' = true := fun c hc => by
        rw [List.mem_flatten] at hc
        obtain ⟨d, hd, hcd⟩ := hc
        rw [(List.mem_replicate.1 hd).2] at hcd
        exact h1 c hcd
      have hsum : i.toNat * sz + (l.length - i.toNat) * sz = l.length * sz := by rw [← Nat.add_mul]; congr 1; omega
      have hcapm : l.length * sz ≤ cap * sz := Nat.mul_le_mul_right _ hc
      have hst := run_storeCells_at P g (og + i.toNat * sz) e (List.replicate (l.length - i.toNat) (f za)).flatten 0 cur w hgw (by simp only [Nat.add_zero]; omega) h1'
      simp only [Nat.add_zero] at hst
      have hsub : subv (.slice (some ⟨g, og, none⟩) (l.map f).length cap) i (l.length : Int) sz = .slice (some ⟨g, og + i.toNat * sz, none⟩) (l.length - i.toNat) (cap - i.toNat) := by
        have : ¬ cap = i.toNat := by omega
        simp [subv, this, add_lit]
      have hne : ∃ m, l.length - i.toNat = m + 1 := ⟨l.length - i.toNat - 1, by omega⟩
      have hzv : (zeroValue e).run P w = .ok z' w := by simp [zeroValue, typeInfo, hti, hz']
      have hrun : (Builtin.clear_ #[t] ty #[subv (.slice (some ⟨g, og, none⟩) (l.map f).length cap) i (l.length : Int) sz]).run P w = .ok (.tuple #[]) (w.setRow g (cur.toList.take (og + i.toNat * sz) ++ (List.replicate (l.length - i.toNat) (f za)).flatten ++ cur.toList.drop (og + i.toNat * sz + (List.replicate (l.length - i.toNat) (f za)).flatten.length)).toArray) := by
        rw [hsub]
        obtain ⟨m, hm1⟩ := hne
        rw [hm1] at hst hus ⊢
        simp [Builtin.clear_, run_underlying hu, hzv, hus, hst]
      refine ⟨_, _, _, hop _ hrun, ⟨rfl, rfl⟩, s.os, s.tape, s.output, ?_⟩
      rw [hw_setRow hgw]
      have hallN : ∀ c ∈ (l.take i.toNat ++ List.replicate (l.length - i.toNat) za).map f, c.length = sz := fun c hc => by
        rw [List.map_append, List.mem_append] at hc
        rcases hc with hc | hc
        · rw [List.mem_map] at hc; obtain ⟨y, hy, rfl⟩ := hc; exact hlA _ (List.mem_map.2 ⟨y, List.mem_of_mem_take hy, rfl⟩)
        · rw [List.map_replicate] at hc; exact hall2 c hc
      have hlenN : ((l.take i.toNat ++ List.replicate (l.length - i.toNat) za).map f).length = l.length := by simp; omega
      refine (Sat.upd k hk s.sat fun g1 s1 ho => ⟨?_, hallN, .inr ⟨g, og, cap, _, by rw [hlenN, List.length_map], by rw [hlenN]; exact hc, hm, put_same _ _ _, ?_, ?_⟩⟩).1
      · rcases ho.2 with ⟨⟨a', he⟩, hnl⟩ | ⟨g', og', cap'', cur', he, _, _, hg', _⟩
        · have : l = [] := by simpa using hnl
          subst this
          simp at hn
        · cases he; rw [hg']; simp
      · simp only [List.size_toArray, List.length_append, List.length_take, List.length_drop, Array.length_toList]
        omega
      · rw [hlenN]
        have hallT : ∀ c ∈ (l.take i.toNat).map f, c.length = sz := fun c hc => hallN c (by rw [List.map_append]; exact List.mem_append_left _ hc)
        have hsplit : (l.map f).flatten = ((l.take i.toNat).map f).flatten ++ ((l.drop i.toNat).map f).flatten := by
          rw [← List.flatten_append, ← List.map_append, List.take_append_drop]
        have hfl : ((l.take i.toNat).map f).flatten.length = i.toNat * sz := by rw [flat_len hallT]; congr 1; simp; omega
        have htake : (cur.toList.drop og).take (i.toNat * sz) = ((l.take i.toNat).map f).flatten := by
          have : (cur.toList.drop og).take (i.toNat * sz) = ((cur.toList.drop og).take (l.length * sz)).take (i.toNat * sz) := by rw [List.take_take, Nat.min_eq_left (by omega)]
          rw [this, htk, hsplit, ← hfl]
          exact List.take_left
        have hdr : ∀ Y Z : List Value, (cur.toList.take (og + i.toNat * sz) ++ Y ++ Z).drop og = (cur.toList.drop og).take (i.toNat * sz) ++ Y ++ Z := fun Y Z => by
          rw [List.append_assoc, List.drop_append_of_le_length (by rw [List.length_take, Array.length_toList]; omega), List.drop_take, Nat.add_sub_cancel_left, List.append_assoc]
        rw [List.toList_toArray, hdr, htake, List.map_append, List.map_replicate, List.flatten_append]
        have : l.length * sz = (((l.take i.toNat).map f).flatten ++ (List.replicate (l.length - i.toNat) (f za)).flatten).length := by rw [List.length_append, hfl, hul, hsum]
        rw [this]
        exact List.take_left
theorem TO.clearO {t e sz bytes : Nat} {x : Operand} {v : Value} {α : Type} {f : α → List Value} {l : List α} {z : Value} {i : Int} (k : Nat) (za : α) (ht : elemB P t e sz bytes = true) (hsz : 0 < sz) (hz : (P.info? e).bind (·.zero) = some z) (hcz : z.cells = (f za).toArray)
    (h1 : ∀ c ∈ f za, c.oneCell' = true) (hi : 0 ≤ i ∧ i ≤ (l.length : Int)) (hx : opv E x = some (subv v i (l.length : Int) sz)) (hk : L[k]? = some (OwnS e sz v (l.map f))) {ts : Array TypeId} (hts : ts = #[t]) (hd : Nat.blt d N = true)
    (h : TO P N B ops rest ((d, .tuple #[]) :: E) (L.set k (OwnS e sz v ((l.take i.toNat ++ List.replicate (l.length - i.toNat) za).map f))) Q) : TO P N B ops (⟨some d, .call ⟨.builtin .clear, #[x], ts⟩, ty, ps, af, none⟩ :: rest) E L Q :=
  TO.step rfl rfl hd (StepW.clearO ht hsz hz hcz h1 hi hx hk hts) fun u L' ⟨hu, hL⟩ => by subst hu; subst hL; exact h
theorem TO.clearO0 {t e sz bytes : Nat} {x : Operand} {v : Value} {α : Type} {f : α → List Value} {l : List α} {z : Value} {i : Int} (k : Nat) (za : α) (ht : elemB P t e sz bytes = true) (hsz : 0 < sz) (hz : (P.info? e).bind (·.zero) = some z) (hcz : z.cells = (f za).toArray)
    (h1 : ∀ c ∈ f za, c.oneCell' = true) (hi : 0 ≤ i ∧ i ≤ (l.length : Int)) (hx : opv E x = some (subv v i (l.length : Int) sz)) (hk : L[k]? = some (OwnS e sz v (l.map f))) {ts : Array TypeId} (hts : ts = #[t])
    (h : TO P N B ops rest E (L.set k (OwnS e sz v ((l.take i.toNat ++ List.replicate (l.length - i.toNat) za).map f))) Q) : TO P N B ops (⟨none, .call ⟨.builtin .clear, #[x], ts⟩, ty, ps, af, none⟩ :: rest) E L Q :=
  TO.step0 rfl rfl (StepW.clearO ht hsz hz hcz h1 hi hx hk hts) fun u L' ⟨_, hL⟩ => by subst hL; exact h
end
end Go.Bk
