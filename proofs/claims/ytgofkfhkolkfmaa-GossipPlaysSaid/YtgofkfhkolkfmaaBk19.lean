/-
  Numbers of 64 bits without a sign; copy into an own slice. Nothing of any program stands here.
-/
import Derived.Test.YtgofkfhkolkfmaaBk18
import Derived.Laws.IdiomCopy
namespace Go.Bk
open Go
set_option linter.unusedVariables false
set_option linter.unusedSimpArgs false
/-- The bits that two numbers share. -/
def and64 (m n : Int) : Int := u64 ((BitVec.ofInt 64 m &&& BitVec.ofInt 64 n).toNat : Int)
def shr64 (m : Int) (k : Nat) : Int := m.fdiv (2 ^ min k 64)
/-- What copy makes of a slice. -/
def cpy {α : Type} (l : List α) (o : Nat) (m : List α) : List α := l.take o ++ (m.take (l.length - o) ++ l.drop (o + min m.length (l.length - o)))
section
variable {P : Program} {N : Nat} {B : World} {E : Env} {L : List HP} {ops : Array Oper} {rest : List Oper} {Q : Act → World → Prop}
variable {d : Nat} {dd : Option Tmp} {ty : TypeId} {ps : String} {af : Array Edge} {gd : Option (Nat × Bool)}

theorem StepS.ariV {op : BinOp} {x y : Operand} {t u : TypeId} {m n r : Int} (hx : opv E x = some (.int .u64 m)) (hy : opv E y = some (.int .u64 n)) (hr : ariI op m n = some r) :
    StepS P N B ⟨dd, .binOp op t x y u, ty, ps, af, gd⟩ E L (.int .u64 (u64 r)) :=
  fun a w e _ => by
    cases op <;> simp only [ariI, Option.some.injEq, reduceCtorEq] at hr <;> subst hr <;> simp [execOp, e.eval hx, e.eval hy, eqGuard, binOp, Op.intArith, u64]
theorem StepS.andV {x y : Operand} {t u : TypeId} {m n : Int} (hx : opv E x = some (.int .u64 m)) (hy : opv E y = some (.int .u64 n)) :
    StepS P N B ⟨dd, .binOp .and t x y u, ty, ps, af, gd⟩ E L (.int .u64 (and64 m n)) :=
  fun a w e _ => by
    have : ∀ z : BitVec IntKind.u64.bits, (pure (.int .u64 (IntKind.u64.wrap (z.toNat : Int))) : Sem Value) = pure (.int .u64 (u64 (z.toNat : Int))) := fun z => rfl
    simp only [execOp, e.eval hx, e.eval hy, eqGuard, binOp, Op.intBits, and64]
    simp only [this, IntKind.bits]
    simp [-BitVec.toNat_and]
    rfl
theorem StepS.shrV {x y : Operand} {t u : TypeId} {k : IntKind} {m n : Int} (hx : opv E x = some (.int .u64 m)) (hy : opv E y = some (.int k n)) (hn : 0 ≤ n) :
    StepS P N B ⟨dd, .binOp .shr t x y u, ty, ps, af, gd⟩ E L (.int .u64 (shr64 m n.toNat)) := by
  intro a w e _
  have h : ¬ n < 0 := by omega
  simp [execOp, e.eval hx, e.eval hy, eqGuard, binOp, Op.shift, h, shr64, IntKind.bits]
theorem StepS.cvVI {src dst : TypeId} {x : Operand} {n : Int} (h1 : intB P src .u64 = true) (h2 : intB P dst .i64 = true) (hx : opv E x = some (.int .u64 n)) : StepS P N B ⟨dd, .convert src dst x, ty, ps, af, gd⟩ E L (I (w64 n)) :=
  fun a w e _ => by simp [execOp, e.eval hx, run_cv h1 h2, w64]
theorem StepS.cvVU {src dst : TypeId} {x : Operand} {n : Int} (h1 : intB P src .u64 = true) (h2 : intB P dst .u32 = true) (hx : opv E x = some (.int .u64 n)) : StepS P N B ⟨dd, .convert src dst x, ty, ps, af, gd⟩ E L (U (BitVec.ofInt 32 n)) :=
  fun a w e _ => by simp only [execOp, e.eval hx, run_cv h1 h2, wrap_u32, Sem.run_bind, Result.andThen_ok, Sem.run_pure]
theorem StepS.cvUV {src dst : TypeId} {x : Operand} {n : BitVec 32} (h1 : intB P src .u32 = true) (h2 : intB P dst .u64 = true) (hx : opv E x = some (U n)) : StepS P N B ⟨dd, .convert src dst x, ty, ps, af, gd⟩ E L (.int .u64 (n.toNat : Int)) :=
  fun a w e _ => by
    have : IntKind.u64.wrap (n.toNat : Int) = n.toNat := u64_of (by omega) (by have := n.isLt; omega)
    simp [execOp, e.eval hx, run_cv h1 h2, this]

theorem cpy_nil {α : Type} (l : List α) (o : Nat) (m : List α) (h : min m.length (l.length - o) = 0) : cpy l o m = l := by
  have : m.take (l.length - o) = [] := by rw [← List.length_eq_zero_iff, List.length_take]; omega
  rw [cpy, this, h]; simp
theorem length_cpy {α : Type} (l : List α) (o : Nat) (m : List α) (h : o ≤ l.length) : (cpy l o m).length = l.length := by
  simp [cpy]; omega
theorem subv_self {e sz : Nat} {v : Value} {css : List (List Value)} {h : PH} (o : OwnS e sz v css h) : v = subv v 0 (css.length : Int) sz := by
  rcases o.2 with ⟨⟨a, rfl⟩, rfl⟩ | ⟨g, og, cap, cur, rfl, _⟩
  · simp [subv]
  · by_cases hc : cap = 0 <;> simp [subv, hc, add_lit]
theorem take3 {α : Type} (n : Nat) (a b c : List α) (h : a.length + b.length ≤ n) : (a ++ (b ++ c)).take n = a ++ (b ++ c.take (n - a.length - b.length)) := by
  rw [List.take_append, List.take_of_length_le (by omega), List.take_append, List.take_of_length_le (l := b) (by omega)]
/-- copy(s[o:], t) -/
theorem StepW.copyO {t e k : Nat} {x y : Operand} {v dv u : Value} {α : Type} {f : α → List Value} {l m : List α} {o : Int} (ht : sliceB P t e 1 = true) (hi : 0 ≤ o ∧ o ≤ (l.length : Int)) (hx : opv E x = some dv) (hd : ∀ h, OwnS e 1 v (l.map f) h → dv = subv v o (l.length : Int) 1)
    (hk : L[k]? = some (OwnS e 1 v (l.map f))) (hy : opv E y = some u) (en : Ent L (Rd 1 u (m.map f))) (h1 : ∀ x, ∀ c ∈ f x, c.oneCell' = true) {ts : Array TypeId} (hts : ts = #[t, t]) :
    StepW P N B ⟨dd, .call ⟨.builtin .copy, #[x, y], ts⟩, ty, ps, af, gd⟩ E L (fun r L' => r = I ((min m.length (l.length - o.toNat) : Nat) : Int) ∧ L' = L.set k (OwnS e 1 v ((cpy l o.toNat m).map f))) := by
  subst hts
  obtain ⟨hu, hs1⟩ := sliceB_spec ht
  obtain ⟨ti, hti, hsz⟩ := sizeB_spec hs1
  refine StepW.of_run fun a w en' s => ?_
  have hop : ∀ r w', (Builtin.copy_ #[t, t] ty #[dv, u]).run P w = .ok r w' → (execOp a.eval ⟨dd, .call ⟨.builtin .copy, #[x, y], #[t, t]⟩, ty, ps, af, gd⟩).run P w = .ok (.value r) w' := fun r w' hr => by
    simp [execOp, resolve, invoke, builtin, en'.eval hx, en'.eval hy, hr]
  obtain ⟨hA, sA, hOwn⟩ := s.get (Ent.at k hk)
  have hdv := hd _ hOwn
  obtain ⟨hlA, hr⟩ := hOwn
  obtain ⟨hR, sR, hlR, hR'⟩ := s.get en
  have hsome : (P.info? e).map (·.size) = some 1 := by rw [hti]; simp [hsz]
  by_cases hn : min m.length (l.length - o.toNat) = 0
  · rw [cpy_nil l o.toNat m hn, set_same hk, hn]
    refine ⟨_, _, w, hop (I 0) w ?_, ⟨rfl, rfl⟩, s⟩
    obtain ⟨da, dLen, dCap, hdq, hdl⟩ : ∃ da dLen dCap, dv = .slice da dLen dCap ∧ dLen = l.length - o.toNat := by
      rcases hr with ⟨⟨ad, rfl⟩, hl⟩ | ⟨g, og, cap, cur, rfl, _⟩
      · exact ⟨_, _, _, by rw [hdv, subv], by simp⟩
      · exact ⟨_, _, _, by rw [hdv, subv], by simp⟩
    obtain ⟨sa, sLen, sCap, hsq, hsl⟩ : ∃ sa sLen sCap, u = .slice sa sLen sCap ∧ sLen = m.length := by
      rcases hR' with ⟨⟨ad, rfl⟩, hm⟩ | ⟨b, oo, cap, arr, el, fz, rfl, _⟩
      · have : m = [] := by simpa using hm
        exact ⟨_, _, _, rfl, by rw [this]; rfl⟩
      · exact ⟨_, _, _, rfl, by simp⟩
    rw [hdq, hsq]
    exact run_copy_none (P := P) w t t ty e da sa dLen dCap sLen sCap hu hsome (by rw [hdl, hsl]; exact hn)
  · rcases hr with ⟨⟨ad, rfl⟩, hl⟩ | ⟨g, og, cap, cur, rfl, hc, hm', hg, hsize, htk⟩
    · have : l = [] := by simpa using hl
      subst this
      simp at hn
    · rcases hR' with ⟨⟨ad, rfl⟩, hm⟩ | ⟨b, oo, cap', arr, el, fz, rfl, hcap', _, hb, hseg⟩
      · have : m = [] := by simpa using hm
        subst this
        simp at hn
      · have hgw := sA g _ hg
        simp only [List.length_map, Nat.mul_one] at hc htk hsize hcap'
        have hflat1 : ∀ (z : List α), (∀ c ∈ z.map f, c.length = 1) → (z.map f).flatten.length = z.length := fun z hz => by rw [flat_len hz]; simp
        have hcs : ((m.take (l.length - o.toNat)).map f).flatten.length = min m.length (l.length - o.toNat) := by
          rw [hflat1]
          · rw [List.length_take]; omega
          · intro c hc; rw [List.mem_map] at hc; obtain ⟨y, hy, rfl⟩ := hc; exact hlR _ (List.mem_map.2 ⟨y, List.mem_of_mem_take hy, rfl⟩)
        have hsrc : ∀ j u', ((m.take (l.length - o.toNat)).map f).flatten[j]? = some u' → w.cell? ((⟨b, oo, none⟩ : Addr).add j) = some u' := fun j u' hj => by
          rw [add_lit, cell_of (sR b _ hb)]
          have hjl : j < (m.take (l.length - o.toNat)).length := by
            have := (List.getElem?_eq_some_iff.1 hj).1
            rw [hcs] at this; rw [List.length_take]; omega
          have hallT : ∀ c ∈ (m.take (l.length - o.toNat)).map f, c.length = 1 := fun c hc => by
            rw [List.mem_map] at hc; obtain ⟨y, hy, rfl⟩ := hc; exact hlR _ (List.mem_map.2 ⟨y, List.mem_of_mem_take hy, rfl⟩)
          have hcT : ((m.take (l.length - o.toNat)).map f)[j]? = some (f ((m.take (l.length - o.toNat))[j])) := by rw [List.getElem?_map, List.getElem?_eq_getElem hjl]; rfl
          have hl1 : (f ((m.take (l.length - o.toNat))[j])).length = 1 := hallT _ (List.mem_of_getElem? hcT)
          have hv : (f ((m.take (l.length - o.toNat))[j]))[0]? = some ((f ((m.take (l.length - o.toNat))[j]))[0]'(by omega)) := List.getElem?_eq_getElem (by omega)
          have h2 := flat_get hallT j _ 0 _ hcT hv
          simp only [Nat.mul_one, Nat.add_zero] at h2
          rw [hj] at h2
          have hcM : (m.map f)[j]? = some (f ((m.take (l.length - o.toNat))[j])) := by
            rw [List.length_take] at hjl
            have : j < m.length := by omega
            simp [this]
          have h3 := hseg j _ 0 _ hcM hv
          simp only [Nat.mul_one, Nat.add_zero] at h3
          rw [h3, ← h2]
        have h1' : ∀ c ∈ ((m.take (l.length - o.toNat)).map f).flatten, c.oneCell' = true := fun c hc => by
          rw [List.mem_flatten] at hc
          obtain ⟨d, hd, hcd⟩ := hc
          rw [List.mem_map] at hd
          obtain ⟨y, _, rfl⟩ := hd
          exact h1 y c hcd
        have hsub : dv = .slice (some ⟨g, og + o.toNat, none⟩) (l.length - o.toNat) (cap - o.toNat) := by
          have : ¬ cap = o.toNat := by omega
          rw [hdv]; simp [subv, this, add_lit]
        have hrun := run_copy_row (P := P) w t t ty e g (og + o.toNat) (l.length - o.toNat) (cap - o.toNat) ⟨b, oo, none⟩ (m.map f).length cap' cur e _ hu hsome hgw (by rw [hcs, List.length_map]) hsrc (by rw [hcs]; omega) h1'
        rw [hcs] at hrun
        rw [← hsub] at hrun
        refine ⟨_, _, _, hop _ _ hrun, ⟨rfl, rfl⟩, s.os, s.tape, s.output, ?_⟩
        rw [hw_setRow hgw]
        have hallN : ∀ c ∈ (cpy l o.toNat m).map f, c.length = 1 := fun c hc => by
          rw [List.mem_map] at hc
          obtain ⟨y, hy, rfl⟩ := hc
          rw [cpy, List.mem_append, List.mem_append] at hy
          rcases hy with hy | hy | hy
          · exact hlA _ (List.mem_map.2 ⟨y, List.mem_of_mem_take hy, rfl⟩)
          · exact hlR _ (List.mem_map.2 ⟨y, List.mem_of_mem_take hy, rfl⟩)
          · exact hlA _ (List.mem_map.2 ⟨y, List.mem_of_mem_drop hy, rfl⟩)
        have hlenN : ((cpy l o.toNat m).map f).length = l.length := by rw [List.length_map, length_cpy _ _ _ (by omega)]
        refine (Sat.upd k hk s.sat fun g1 s1 ho => ⟨?_, hallN, .inr ⟨g, og, cap, _, by rw [hlenN, List.length_map], by rw [hlenN]; exact hc, hm', put_same _ _ _, ?_, ?_⟩⟩).1
        · rcases ho.2 with ⟨⟨a', he⟩, hnl⟩ | ⟨g', og', cap'', cur', he, _, _, hg', _⟩
          · have : l = [] := by simpa using hnl
            subst this
            simp at hn
          · cases he; rw [hg']; simp
        · simp only [List.size_toArray, List.length_append, List.length_take, List.length_drop, Array.length_toList, hcs]
          omega
        · obtain ⟨D, hD⟩ : ∃ D, D = cur.toList.drop og := ⟨_, rfl⟩
          have hdr : ∀ (Y : List Value) (n : Nat), (cur.toList.take (og + o.toNat) ++ Y ++ cur.toList.drop (og + o.toNat + n)).drop og = D.take o.toNat ++ Y ++ D.drop (o.toNat + n) := fun Y n => by
            rw [List.append_assoc, List.drop_append_of_le_length (by rw [List.length_take, Array.length_toList]; omega), List.drop_take, Nat.add_sub_cancel_left, hD, List.drop_drop, List.append_assoc, Nat.add_assoc]
          rw [hlenN, List.toList_toArray, hdr]
          rw [← hD] at htk
          have hseg1 : ∀ (i : Nat), (∀ c ∈ (l.take i).map f, c.length = 1) := fun i c hc => by
            rw [List.mem_map] at hc; obtain ⟨y, hy, rfl⟩ := hc; exact hlA _ (List.mem_map.2 ⟨y, List.mem_of_mem_take hy, rfl⟩)
          have htake : ∀ i, i ≤ l.length → D.take i = ((l.take i).map f).flatten := fun i hi => by
            have e1 : D.take i = (D.take l.length).take i := by rw [List.take_take, Nat.min_eq_left hi]
            have hsplit : (l.map f).flatten = ((l.take i).map f).flatten ++ ((l.drop i).map f).flatten := by
              rw [← List.flatten_append, ← List.map_append, List.take_append_drop]
            have hfl : ((l.take i).map f).flatten.length = i := by rw [hflat1 _ (hseg1 i), List.length_take]; omega
            rw [e1, htk, hsplit]
            exact List.take_left' hfl
          have hsp : ∀ i, i ≤ l.length → (D.take l.length).drop i = ((l.drop i).map f).flatten := fun i hi => by
            have hsplit : (l.map f).flatten = ((l.take i).map f).flatten ++ ((l.drop i).map f).flatten := by
              rw [← List.flatten_append, ← List.map_append, List.take_append_drop]
            have hfl : ((l.take i).map f).flatten.length = i := by rw [hflat1 _ (hseg1 i), List.length_take]; omega
            rw [htk, hsplit]
            exact List.drop_left' hfl
          rw [htake o.toNat (by omega)]
          have hfl : ((l.take o.toNat).map f).flatten.length = o.toNat := by rw [hflat1 _ (hseg1 _), List.length_take]; omega
          rw [cpy, List.map_append, List.map_append, List.flatten_append, List.flatten_append, Nat.mul_one]
          rw [← hsp (o.toNat + min m.length (l.length - o.toNat)) (by omega)]
          rw [List.append_assoc, take3 _ _ _ _ (by rw [hfl, hcs]; omega), hfl, hcs]
          congr 2
          rw [List.drop_take, ← Nat.sub_sub]
theorem TO.copyO {t e : Nat} {x y : Operand} {v dv u : Value} {α : Type} {f : α → List Value} {l m : List α} {o : Int} (k : Nat) (ht : sliceB P t e 1 = true) (hi : 0 ≤ o ∧ o ≤ (l.length : Int)) (hx : opv E x = some dv) (hd : ∀ h, OwnS e 1 v (l.map f) h → dv = subv v o (l.length : Int) 1)
    (hk : L[k]? = some (OwnS e 1 v (l.map f))) (hy : opv E y = some u) (en : Ent L (Rd 1 u (m.map f))) (h1 : ∀ x, ∀ c ∈ f x, c.oneCell' = true) {ts : Array TypeId} (hts : ts = #[t, t]) (hdd : Nat.blt d N = true)
    (h : TO P N B ops rest ((d, I ((min m.length (l.length - o.toNat) : Nat) : Int)) :: E) (L.set k (OwnS e 1 v ((cpy l o.toNat m).map f))) Q) : TO P N B ops (⟨some d, .call ⟨.builtin .copy, #[x, y], ts⟩, ty, ps, af, none⟩ :: rest) E L Q :=
  TO.step rfl rfl hdd (StepW.copyO ht hi hx hd hk hy en h1 hts) fun r L' ⟨hr, hL⟩ => by subst hr; subst hL; exact h
theorem subv_self' {e sz : Nat} {v : Value} {α : Type} {f : α → List Value} {l : List α} : ∀ h, OwnS e sz v (l.map f) h → v = subv v 0 (l.length : Int) sz := fun h o => by
  have := subv_self o; rwa [List.length_map] at this
end
end Go.Bk
