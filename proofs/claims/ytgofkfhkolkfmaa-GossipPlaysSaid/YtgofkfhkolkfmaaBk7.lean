/-
  Rules for slices that a call owns: make, literals, append, stores. Nothing of any program stands here.
-/
import Derived.Test.YtgofkfhkolkfmaaBk5
import Derived.Great.BuildSlice
import Derived.Maps.AppendAt
import Derived.Laws.MakeOwn
namespace Go.Bk
open Go
set_option linter.unusedVariables false
set_option linter.unusedSimpArgs false

theorem set_same {α : Type _} {L : List α} {k : Nat} {A : α} (h : L[k]? = some A) : L.set k A = L := by
  obtain ⟨hk, rfl⟩ := List.getElem?_eq_some_iff.1 h
  exact List.set_getElem_self hk
/-- Assertion number k gives way to one on a new row. -/
theorem Sat.anew {A A' : HP} {b : Nat} {o : Obj} : ∀ {L : List HP} (k : Nat) {h : PH}, L[k]? = some A → Sat L h → h b = none → A' (put (fun _ => none) b o) → Sat (L.set k A') (put h b o)
  | [], _, _, hk, _, _, _ => by simp at hk
  | B :: L, 0, h, hk, s, hb, ha => by
    obtain ⟨h1, h2, d, s1, s2, a, r⟩ := s
    exact Sat.new hb (Sat.mono s2 r) ha
  | B :: L, k + 1, h, hk, ⟨h1, h2, d, s1, s2, a, r⟩, hb, ha => by
    have h2b : h2 b = none := by
      cases x : h2 b with
      | none => rfl
      | some u => rw [s2 b u x] at hb; cases hb
    have h1b : h1 b = none := by
      cases x : h1 b with
      | none => rfl
      | some u => rw [s1 b u x] at hb; cases hb
    refine ⟨h1, put h2 b o, ?_, s1.put_none h1b o, s2.put b o, a, Sat.anew k (by simpa using hk) r h2b ha⟩
    intro c
    by_cases hc : c = b
    · subst hc; exact .inl h1b
    · rw [put_ne _ _ hc]; exact d c

theorem flat_rep (zl : List Value) : ∀ (n i : Nat), (List.replicate n zl).flatten[i]? = if i < n * zl.length then zl[i % zl.length]? else none
  | 0, i => by simp
  | n + 1, i => by
    rw [List.replicate_succ, List.flatten_cons]
    by_cases h : i < zl.length
    · rw [List.getElem?_append_left h, Nat.mod_eq_of_lt h, if_pos (by rw [Nat.add_mul]; omega)]
    · have hmod : i % zl.length = (i - zl.length) % zl.length := Nat.mod_eq_sub_mod (by omega)
      rw [List.getElem?_append_right (by omega), flat_rep zl n, hmod]
      have : (i - zl.length < n * zl.length) ↔ (i < (n + 1) * zl.length) := by rw [Nat.add_mul]; omega
      simp only [this]
theorem made_flat (z : Array Value) (n : Nat) (h0 : 0 < z.size) : (madeCells z (n * z.size)).toList = (List.replicate n z.toList).flatten := by
  apply List.ext_getElem?
  intro i
  rw [flat_rep]
  simp only [Array.length_toList, madeCells, Array.toList_map, Array.toList_range, List.getElem?_map]
  by_cases h : i < n * z.size
  · have : i % z.size < z.size := Nat.mod_lt _ h0
    simp [List.getElem?_range h, h, this]
  · simp [h, List.getElem?_eq_none]

def mkl {α : Type} (n : Int) (bytes : Nat) (z : α) : Option (List α) := if 0 ≤ n ∧ (bytes : Int) * n ≤ 281474976710656 ∧ n ≤ 9223372036854775807 then some (List.replicate n.toNat z) else none
def appl {α : Type} (bytes : Nat) (l m : List α) : Option (List α) := if (l.length + m.length) * bytes ≤ 140737488355328 ∧ l.length + m.length ≤ 9223372036854775807 then some (l ++ m) else none
theorem mkl_spec {α : Type} {n : Int} {bytes : Nat} {z : α} {l : List α} (h : mkl n bytes z = some l) : 0 ≤ n ∧ (bytes : Int) * n ≤ 281474976710656 ∧ n ≤ 9223372036854775807 ∧ l = List.replicate n.toNat z := by
  unfold mkl at h; split at h
  · rename_i c; exact ⟨c.1, c.2.1, c.2.2, (Option.some.inj h).symm⟩
  · cases h
theorem appl_spec {α : Type} {bytes : Nat} {l m r : List α} (h : appl bytes l m = some r) : (l.length + m.length) * bytes ≤ 140737488355328 ∧ l.length + m.length ≤ 9223372036854775807 ∧ r = l ++ m := by
  unfold appl at h; split at h
  · rename_i c; exact ⟨c.1, c.2, (Option.some.inj h).symm⟩
  · cases h

def elemB (P : Program) (t e sz bytes : Nat) : Bool := sliceB P t e sz && (match P.info? e with | some i => Nat.beq i.bytes bytes && (match i.zero with | some z => Nat.beq z.cells.size sz | none => false) | none => false)
theorem elemB_spec {P : Program} {t e sz bytes : Nat} (h : elemB P t e sz bytes = true) : P.underlying t = some (.slice e) ∧ ∃ i z, P.info? e = some i ∧ i.zero = some z ∧ i.size = sz ∧ i.bytes = bytes ∧ z.cells.size = sz := by
  unfold elemB at h
  rw [Bool.and_eq_true] at h
  obtain ⟨hu, hs⟩ := sliceB_spec h.1
  obtain ⟨i, hi, hsz⟩ := sizeB_spec hs
  refine ⟨hu, i, ?_⟩
  have h2 := h.2
  rw [hi] at h2
  simp only [Bool.and_eq_true] at h2
  cases hz : i.zero with
  | none => rw [hz] at h2; exact absurd h2.2 (by simp)
  | some z => rw [hz] at h2; exact ⟨z, hi, rfl, hsz, Nat.eq_of_beq_eq_true h2.1, Nat.eq_of_beq_eq_true h2.2⟩

def arrB (P : Program) (t n e sz : Nat) : Bool := (match P.underlying t with | some (.array m e') => Nat.beq m n && Nat.beq e' e | _ => false) && sizeB P e sz
theorem arrB_spec {P : Program} {t n e sz : Nat} (h : arrB P t n e sz = true) : P.underlying t = some (.array n e) ∧ sizeB P e sz = true := by
  unfold arrB at h
  simp only [Bool.and_eq_true] at h
  refine ⟨?_, h.2⟩
  cases x : P.underlying t with
  | none => rw [x] at h; cases h.1
  | some d =>
    rw [x] at h
    cases d with
    | array m e' =>
      have h1 := h.1
      simp only [Bool.and_eq_true] at h1
      rw [Nat.eq_of_beq_eq_true h1.1, Nat.eq_of_beq_eq_true h1.2]
    | _ => exact absurd h.1 (by simp)

section
variable {P : Program} {N : Nat} {B : World} {E : Env} {L : List HP} {ops : Array Oper} {rest : List Oper} {Q : Act → World → Prop}
variable {d : Nat} {dd : Option Tmp} {ty : TypeId} {ps : String} {af : Array Edge} {gd : Option (Nat × Bool)}

/-- Other assertions that the same says. -/
theorem TO.ghost {l : List Oper} {L' : List HP} (hs : ∀ h, Sat L h → Sat L' h) (h : TO P N B ops l E L' Q) : TO P N B ops l E L Q := fun a w e s => h a w e (s.mono hs)

theorem TO.mkS {t e sz bytes : Nat} {x y : Operand} {n : Int} {z : Value} {α : Type} {f : α → List Value} {za : α} {l : List α} (ht : elemB P t e sz bytes = true) (hz : (P.info? e).bind (·.zero) = some z) (hcz : z.cells = (f za).toArray) (hsz : 0 < sz)
    (hx : opv E x = some (I n)) (hy : opv E y = some (I n)) (hm : mkl n bytes za = some l) (hd : Nat.blt d N = true)
    (h : ∀ v, TO P N B ops rest ((d, v) :: E) (OwnS e sz v (l.map f) :: L) Q) : TO P N B ops (⟨some d, .makeSlice t x y, ty, ps, af, none⟩ :: rest) E L Q := by
  obtain ⟨hu, i, z', hi, hz', hs, hb, hzs⟩ := elemB_spec ht
  rw [hi] at hz
  have : z' = z := by rw [Option.bind_some, hz'] at hz; exact Option.some.inj hz
  subst this
  obtain ⟨h0, h48, h63, rfl⟩ := mkl_spec hm
  subst hs
  subst hb
  have hfl : (f za).length = i.size := by rw [← hzs, hcz]; simp
  refine TO.step (R := fun v L' => ∃ v0, v = v0 ∧ L' = OwnS e i.size v0 ((List.replicate n.toNat za).map f) :: L) rfl rfl hd (StepW.of_run fun a w en s => ?_) (fun v L' ⟨v0, hv, hL⟩ => by subst hv; subst hL; exact h v)
  have hr := run_make (P := P) w t e i z' hu hi hz' .i64 .i64 n n h0 (Int.le_refl _) h48 h63
  have hr' : (execOp a.eval ⟨some d, .makeSlice t x y, ty, ps, af, none⟩).run P w = .ok (.value (.slice (some ⟨w.heap.size, 0, none⟩) n.toNat n.toNat)) (w.alloc (.cells (madeCells z'.cells (n.toNat * i.size)) e)) := by
    simp only [execOp, en.eval hx, en.eval hy, Sem.run_bind, hr, Result.andThen_ok, Sem.run_pure]
  refine ⟨_, _, _, hr', ⟨_, rfl, rfl⟩, s.new ?_⟩
  refine ⟨fun c hc => ?_, .inr ⟨w.heap.size, 0, n.toNat, _, by simp, by simp, by unfold maxLen; omega, put_same _ _ _, by simp [size_madeCells], ?_⟩⟩
  · simp at hc; obtain ⟨_, rfl⟩ := hc; exact hfl
  · rw [List.drop_zero]
    have hmf := made_flat z'.cells n.toNat (by omega)
    rw [hzs] at hmf
    have hall : ∀ c ∈ List.replicate n.toNat (f za), c.length = i.size := fun c hc => by rw [(List.mem_replicate.1 hc).2]; exact hfl
    have hcl : (f za).toArray.toList = f za := by simp
    rw [hmf, hcz, hcl, List.map_replicate]
    exact List.take_of_length_le (by rw [flat_len hall]; exact Nat.le_refl _)

def opvp (E : Env) : List (Nat × Operand) → Option (List (Nat × Value))
  | [] => some []
  | (i, x) :: l => match opv E x, opvp E l with | some v, some vs => some ((i, v) :: vs) | _, _ => none
theorem EnvOk.evalp {N : Nat} {E : Env} {a : Act} (e : EnvOk N E a) : ∀ {l : List (Nat × Operand)} {vs : List (Nat × Value)}, opvp E l = some vs → l.map (fun (i, x) => (i, a.eval x)) = vs
  | [], vs, h => by simp [opvp] at h; simp [h]
  | (i, x) :: l, vs, h => by
    simp only [opvp] at h
    cases hx : opv E x with
    | none => rw [hx] at h; cases h
    | some v =>
      cases hl : opvp E l with
      | none => rw [hx, hl] at h; cases h
      | some us => rw [hx, hl] at h; obtain rfl := Option.some.inj h; simp [e.eval hx, e.evalp hl]
/-- A slice that is written out. -/
theorem TO.litS {t e sz bytes len : Nat} {parts : List (Nat × Operand)} {vs : List (Nat × Value)} {z : Value} {α : Type} {f : α → List Value} (l : List α) (ht : elemB P t e sz bytes = true) (hz : (P.info? e).bind (·.zero) = some z)
    (hp : opvp E parts = some vs) (hlen : l.length = len) (hl : ∀ x, (f x).length = sz) (hpos : Nat.blt 0 (len * sz) = true) (hsm : Nat.ble (len * sz) 16777216 = true)
    (hf : Instr.fill (fun i => some (i * sz, sz)) ((Array.range (len * sz)).map (z.cells[· % z.cells.size]!)) vs = some (l.map f).flatten.toArray) (hd : Nat.blt d N = true)
    (h : ∀ v, TO P N B ops rest ((d, v) :: E) (OwnS e sz v (l.map f) :: L) Q) : TO P N B ops (⟨some d, .buildSlice t len parts.toArray, ty, ps, af, none⟩ :: rest) E L Q := by
  obtain ⟨hu, i, z', hi, hz', hs, hb, hzs⟩ := elemB_spec ht
  rw [hi] at hz
  have : z' = z := by rw [Option.bind_some, hz'] at hz; exact Option.some.inj hz
  subst this
  subst hs
  have hpos' : 0 < len * i.size := by simpa [Nat.blt_eq] using hpos
  have hsm' : len * i.size ≤ 16777216 := by simpa [Nat.ble_eq] using hsm
  have hall : ∀ c ∈ l.map f, c.length = i.size := fun c hc => by rw [List.mem_map] at hc; obtain ⟨x, _, rfl⟩ := hc; exact hl x
  refine TO.step (R := fun v L' => ∃ v0, v = v0 ∧ L' = OwnS e i.size v0 (l.map f) :: L) rfl rfl hd (StepW.of_run fun a w en s => ?_) (fun v L' ⟨v0, hv, hL⟩ => by subst hv; subst hL; exact h v)
  have hm : (Array.map (fun (i, x) => (i, a.eval x)) parts.toArray).toList = vs := by rw [List.map_toArray, en.evalp hp]
  have hr := run_buildSlice (P := P) w t e len _ _ i z' hu hi hz' (by omega) (by omega) (by rw [hm]; exact hf)
  have hr' : (execOp a.eval ⟨some d, .buildSlice t len parts.toArray, ty, ps, af, none⟩).run P w = .ok (.value (.slice (some ⟨w.heap.size, 0, none⟩) len len)) (w.alloc (.cells (l.map f).flatten.toArray e)) := by
    simp only [execOp, Sem.run_bind, hr, Result.andThen_ok, Sem.run_pure]
  refine ⟨_, _, _, hr', ⟨_, rfl, rfl⟩, s.new ?_⟩
  refine ⟨hall, .inr ⟨w.heap.size, 0, len, _, by simp [hlen], by simp [hlen], ?_, put_same _ _ _, ?_, ?_⟩⟩
  · have : len ≤ len * i.size := Nat.le_mul_of_pos_right _ (by rcases Nat.eq_zero_or_pos i.size with q | q; rw [q] at hpos'; omega; exact q)
    unfold maxLen; omega
  · rw [List.size_toArray, flat_len hall]; simp [hlen]
  · rw [List.drop_zero]
    simp only [List.take_of_length_le (by rw [flat_len hall]; exact Nat.le_refl _)]

theorem run_append_roomO (w : World) (t ty e : TypeId) (i : TypeInfo) (ht : P.underlying t = some (.slice e)) (hi : P.info? e = some i)
    (g o sLen sCap : Nat) (cur : Array Value) (hg : w.heap[g]? = some (.cells cur e (0, 0)))
    (a : Addr) (m c : Nat) (news : List Value) (hl : news.length = m * i.size) (hnews : ∀ j u, news[j]? = some u → w.cell? (a.add j) = some u) (h1 : ∀ u ∈ news, u.oneCell' = true)
    (hroom : sLen + m ≤ sCap) (hfit : o + sLen * i.size + news.length ≤ cur.size) :
    (Builtin.append_ #[t, t] ty #[.slice (some ⟨g, o, none⟩) sLen sCap, .slice (some a) m c]).run P w =
      .ok (.slice (some ⟨g, o, none⟩) (sLen + m) sCap) (w.setRow g (cur.toList.take (o + sLen * i.size) ++ news ++ cur.toList.drop (o + sLen * i.size + news.length)).toArray) := by
  have hf := run_firstCells_some (P := P) w i.size m a m c news hl hnews
  have hst := run_storeCells_at P g (o + sLen * i.size) e news 0 cur w hg (by simpa using hfit) h1
  simp only [Nat.add_zero] at hst
  simp [Builtin.append_, run_underlying ht, sizeOf, typeInfo, hi, Builtin.lenOf, hroom, hf, Addr.add_lit, hst]
theorem drop_splice {cs us : List Value} {o p : Nat} (h : o + p ≤ cs.length) : (splice cs (o + p) us).drop o = splice (cs.drop o) p us := by
  unfold splice
  rw [List.append_assoc, List.drop_append_of_le_length (by rw [List.length_take]; omega), List.drop_take, Nat.add_sub_cancel_left, List.drop_drop, List.append_assoc, Nat.add_assoc]
/-- append -/
theorem StepW.app {t e sz bytes k : Nat} {x y : Operand} {v u : Value} {α : Type} {f : α → List Value} {l m r : List α} (ht : elemB P t e sz bytes = true) (hsz : 0 < sz) (hx : opv E x = some v) (hk : L[k]? = some (OwnS e sz v (l.map f)))
    (hy : opv E y = some u) (en : Ent L (Rd sz u (m.map f))) (hm : appl bytes l m = some r) (h1 : ∀ x ∈ m, ∀ c ∈ f x, c.oneCell' = true) {ts : Array TypeId} (hts : ts = #[t, t]) :
    StepW P N B ⟨dd, .call ⟨.builtin .append, #[x, y], ts⟩, ty, ps, af, gd⟩ E L (fun v L' => ∃ v0, v = v0 ∧ L' = L.set k (OwnS e sz v0 (r.map f))) := by
  subst hts
  obtain ⟨hu, i, z, hi, hz, hs, hb, hzs⟩ := elemB_spec ht
  subst hs
  subst hb
  obtain ⟨h47, h63, rfl⟩ := appl_spec hm
  refine StepW.of_run fun a w e' s => ?_
  have hop : ∀ v' w', (Builtin.append_ #[t, t] ty #[v, u]).run P w = .ok v' w' → (execOp a.eval ⟨dd, .call ⟨.builtin .append, #[x, y], #[t, t]⟩, ty, ps, af, gd⟩).run P w = .ok (.value v') w' := fun v' w' hr => by
    simp [execOp, resolve, invoke, builtin, e'.eval hx, e'.eval hy, hr]
  obtain ⟨hA, sA, hlA, hA⟩ := s.get (Ent.at k hk)
  obtain ⟨hR, sR, hlR, hR⟩ := s.get en
  have hlen : ∀ c ∈ (l ++ m).map f, c.length = i.size := fun c hc => by
    rw [List.map_append, List.mem_append] at hc; exact hc.elim (hlA c) (hlR c)
  have hflat : ((l ++ m).map f).flatten = (l.map f).flatten ++ (m.map f).flatten := by rw [List.map_append, List.flatten_append]
  rcases hR with ⟨⟨ax, rfl⟩, hmnil⟩ | ⟨b, o, cap', arr, el, fz, rfl, hcap, hmax, hbl, hseg⟩
  · -- nothing is appended
    have hm0 : m = [] := by simpa using hmnil
    subst hm0
    rw [List.append_nil]
    have hsame := set_same hk
    have hrun : (Builtin.append_ #[t, t] ty #[v, .slice ax 0 0]).run P w = .ok v w := by
      rcases hA with ⟨⟨a0, rfl⟩, _⟩ | ⟨g, og, cap, cur, rfl, hc, _⟩
      · cases a0 <;> cases ax <;> simp [Builtin.append_, run_underlying hu, sizeOf, typeInfo, hi, Builtin.lenOf, Builtin.firstCells, loadCells, loadCellsFrom, storeCells]
      · have hc' : l.length ≤ cap := by simpa using hc
        cases ax <;> simp [Builtin.append_, run_underlying hu, sizeOf, typeInfo, hi, Builtin.lenOf, Builtin.firstCells, loadCells, loadCellsFrom, storeCells, hc']
    exact ⟨_, _, w, hop _ _ hrun, ⟨v, rfl, rfl⟩, by rw [hsame]; exact s⟩
  · -- the cells of what is appended
    have hnl : (m.map f).flatten.length = m.length * i.size := by rw [flat_len hlR]; simp
    have hnews : ∀ j u, (m.map f).flatten[j]? = some u → w.cell? ((⟨b, o, none⟩ : Addr).add j) = some u := fun j u hj => by
      rw [add_lit, cell_of (sR b _ hbl)]
      have hjl : j < m.length * i.size := by rw [← hnl]; exact (List.getElem?_eq_some_iff.1 hj).1
      have hq : j / i.size < (m.map f).length := by rw [List.length_map]; exact (Nat.div_lt_iff_lt_mul hsz).2 hjl
      have hrm : j % i.size < i.size := Nat.mod_lt _ hsz
      have hc : (m.map f)[j / i.size]? = some (m.map f)[j / i.size] := List.getElem?_eq_getElem hq
      have hcl : ((m.map f)[j / i.size]).length = i.size := hlR _ (List.getElem_mem hq)
      have hv : ((m.map f)[j / i.size])[j % i.size]? = some (((m.map f)[j / i.size])[j % i.size]'(by omega)) := List.getElem?_eq_getElem (by omega)
      have h2 := flat_get hlR _ _ _ _ hc hv
      have h3 := hseg _ _ _ _ hc hv
      have hdm : j / i.size * i.size + j % i.size = j := by rw [Nat.mul_comm]; exact Nat.div_add_mod j i.size
      rw [hdm] at h2 h3
      rw [hj] at h2
      rw [h3, h2]
    have h1' : ∀ c ∈ (m.map f).flatten, c.oneCell' = true := fun c hc => by
      rw [List.mem_flatten] at hc
      obtain ⟨d, hd, hcd⟩ := hc
      rw [List.mem_map] at hd
      obtain ⟨x, hxm, rfl⟩ := hd
      exact h1 x hxm c hcd
    have hml : (m.map f).length = m.length := by simp
    simp only [List.length_map] at hop
    have hll : ((l ++ m).map f).length = l.length + m.length := by simp
    -- a new row
    have anew : ∀ (olds : List Value) (old : Nat), olds = (l.map f).flatten → old < l.length + m.length → ∀ rs : Array Value, rs.size = (grownCap w (l.length + m.length) old e - (l.length + m.length)) * i.size →
        Sat (L.set k (OwnS e i.size (.slice (some ⟨w.heap.size, 0, none⟩) (l.length + m.length) (grownCap w (l.length + m.length) old e)) ((l ++ m).map f))) (hw (w.drew.alloc (.cells (olds.toArray ++ (m.map f).flatten.toArray ++ rs) e))) := by
      intro olds old ho hlt rs hrs
      rw [hw_alloc]
      have hge := grownCap_ge w (l.length + m.length) old e
      refine Sat.anew (b := w.drew.heap.size) k hk s.sat (hw_new w) ⟨hlen, .inr ⟨w.heap.size, 0, _, _, by rw [hll], by rw [hll]; exact hge, grownCap_le_maxLen w _ old e (by unfold maxLen; omega), put_same _ _ _, ?_, ?_⟩⟩
      · refine Nat.le_of_eq ?_
        simp only [Array.size_append, List.size_toArray, hrs, ho, hnl, Nat.zero_add]
        rw [flat_len hlA, List.length_map, ← Nat.add_mul, ← Nat.add_mul]
        congr 1
        omega
      · rw [List.drop_zero, hflat, ho, hll]
        have : (l.length + m.length) * i.size = ((l.map f).flatten ++ (m.map f).flatten).length := by
          rw [List.length_append, hnl, flat_len hlA, List.length_map, Nat.add_mul]
        simp only [Array.toList_append, List.append_assoc]
        rw [← List.append_assoc, this]
        exact List.take_left
    by_cases hm00 : m.length = 0
    · have hmn : m = [] := List.eq_nil_of_length_eq_zero hm00
      subst hmn
      have hsame := set_same hk
      have hrun : (Builtin.append_ #[t, t] ty #[v, .slice (some ⟨b, o, none⟩) 0 cap']).run P w = .ok v w := by
        rcases hA with ⟨⟨a0, rfl⟩, _⟩ | ⟨g, og, cap, cur, rfl, hc, _⟩
        · cases a0 <;> simp [Builtin.append_, run_underlying hu, sizeOf, typeInfo, hi, Builtin.lenOf, Builtin.firstCells, loadCells, loadCellsFrom, storeCells]
        · have hc' : l.length ≤ cap := by simpa using hc
          simp [Builtin.append_, run_underlying hu, sizeOf, typeInfo, hi, Builtin.lenOf, Builtin.firstCells, loadCells, loadCellsFrom, storeCells, hc']
      exact ⟨_, _, w, hop _ _ hrun, ⟨_, rfl, rfl⟩, by simp only [List.append_nil]; rw [hsame]; exact s⟩
    rcases hA with ⟨⟨a0, rfl⟩, hlnil⟩ | ⟨g, og, cap, cur, rfl, hc, hcm, hgA, hsize, htake⟩
    · have hl0 : l = [] := by simpa using hlnil
      subst hl0
      have hpos : 0 < m.length := by omega
      cases a0 with
      | none =>
        have hr := run_append_nil (P := P) w t ty e i z hu hi hz ⟨b, o, none⟩ m.length cap' _ hnl hnews hpos (by omega) (by simp only [List.length_nil, Nat.zero_add] at h47; omega)
        have hs' := anew [] 0 (by simp) (by simp; omega) (Builtin.zeroCells z.cells (grownCap w (([] : List α).length + m.length) 0 e - (([] : List α).length + m.length))) (by rw [size_zeroCells, hzs])
        simp only [List.length_nil, Nat.zero_add, Array.empty_append] at hs' hr
        exact ⟨_, _, _, hop _ _ hr, ⟨_, rfl, rfl⟩, s.drew.os, s.tape, s.output, hs'⟩
      | some ad =>
        have hr := run_append_grow (P := P) w t ty e i z hu hi hz ad 0 0 [] (by simp) (by simp) ⟨b, o, none⟩ m.length cap' _ hnl hnews (by omega) (by omega) (growslice_fits (by omega) (by simpa using h47))
        have hs' := anew [] 0 (by simp) (by simp; omega) (Builtin.zeroCells z.cells (grownCap w (([] : List α).length + m.length) 0 e - (([] : List α).length + m.length))) (by rw [size_zeroCells, hzs])
        simp only [List.length_nil, Nat.zero_add] at hs' hr
        exact ⟨_, _, _, hop _ _ hr, ⟨_, rfl, rfl⟩, s.drew.os, s.tape, s.output, hs'⟩
    · have hll' : (l.map f).length = l.length := by simp
      simp only [List.length_map] at hop hc htake
      have hg := sA g _ hgA
      by_cases hroom : l.length + m.length ≤ cap
      · have hfit0 : l.length * i.size + (m.map f).flatten.length ≤ cap * i.size := by rw [hnl, ← Nat.add_mul]; exact Nat.mul_le_mul_right _ hroom
        have hfit : og + l.length * i.size + (m.map f).flatten.length ≤ cur.size := by omega
        have hr := run_append_roomO (P := P) w t ty e i hu hi g og l.length cap cur hg ⟨b, o, none⟩ m.length cap' _ hnl hnews h1' hroom hfit
        refine ⟨_, _, _, hop _ _ hr, ⟨_, rfl, rfl⟩, s.os, s.tape, s.output, ?_⟩
        rw [hw_setRow hg]
        refine (Sat.upd k hk s.sat fun h1 s1 ho => ⟨?_, hlen, .inr ⟨g, og, cap, _, by rw [hll], by rw [hll]; exact hroom, hcm, put_same _ _ _, ?_, ?_⟩⟩).1
        · rcases ho.2 with ⟨⟨a', he⟩, hnl'⟩ | ⟨g', og', cap'', cur', he, _, _, hg', _⟩
          · have hcap0 := congrArg (fun v => match v with | Value.slice _ _ c => c | _ => 0) he
            simp at hcap0
            omega
          · cases he; rw [hg']; simp
        · simp only [List.size_toArray, List.length_append, List.length_take, List.length_drop, Array.length_toList]
          omega
        · have hdr : ∀ Z : List Value, (cur.toList.take (og + l.length * i.size) ++ (m.map f).flatten ++ Z).drop og = (cur.toList.drop og).take (l.length * i.size) ++ (m.map f).flatten ++ Z := fun Z => by
            have hcl : og ≤ cur.toList.length := by rw [Array.length_toList]; omega
            rw [List.append_assoc, List.drop_append_of_le_length (by rw [List.length_take]; omega), List.drop_take, Nat.add_sub_cancel_left, List.append_assoc]
          rw [List.toList_toArray, hdr, htake, hflat, hll]
          have : (l.length + m.length) * i.size = ((l.map f).flatten ++ (m.map f).flatten).length := by
            rw [List.length_append, hnl, flat_len hlA, List.length_map, Nat.add_mul]
          rw [this]
          exact List.take_left
      · have holds : ∀ j u, (l.map f).flatten[j]? = some u → w.cell? ((⟨g, og, none⟩ : Addr).add j) = some u := fun j u hj => by
          rw [add_lit, cell_of hg]
          rw [← htake, List.getElem?_take] at hj
          split at hj
          · rw [List.getElem?_drop] at hj; simpa using hj
          · cases hj
        have hr := run_append_grow (P := P) w t ty e i z hu hi hz ⟨g, og, none⟩ l.length cap _ (by rw [flat_len hlA, List.length_map]) holds ⟨b, o, none⟩ m.length cap' _ hnl hnews (by omega) (by omega) (growslice_fits (by omega) h47)
        exact ⟨_, _, _, hop _ _ hr, ⟨_, rfl, rfl⟩, s.drew.os, s.tape, s.output, anew _ cap rfl (by omega) _ (by rw [size_zeroCells, hzs])⟩
theorem TO.app {t e sz bytes k : Nat} {x y : Operand} {v u : Value} {α : Type} {f : α → List Value} {l m r : List α} (ht : elemB P t e sz bytes = true) (hsz : 0 < sz) (hx : opv E x = some v) (hk : L[k]? = some (OwnS e sz v (l.map f)))
    (hy : opv E y = some u) (en : Ent L (Rd sz u (m.map f))) (hm : appl bytes l m = some r) (h1 : ∀ x, ∀ c ∈ f x, c.oneCell' = true) {ts : Array TypeId} (hts : ts = #[t, t]) (hd : Nat.blt d N = true)
    (h : ∀ v, TO P N B ops rest ((d, v) :: E) (L.set k (OwnS e sz v (r.map f))) Q) : TO P N B ops (⟨some d, .call ⟨.builtin .append, #[x, y], ts⟩, ty, ps, af, none⟩ :: rest) E L Q :=
  TO.step rfl rfl hd (StepW.app ht hsz hx hk hy en hm (fun x _ => h1 x) hts) fun v L' ⟨v0, hv, hL⟩ => by subst hv; subst hL; exact h v
theorem TO.appM {t e sz bytes k : Nat} {x y : Operand} {v u : Value} {α : Type} {f : α → List Value} {l m r : List α} (ht : elemB P t e sz bytes = true) (hsz : 0 < sz) (hx : opv E x = some v) (hk : L[k]? = some (OwnS e sz v (l.map f)))
    (hy : opv E y = some u) (en : Ent L (Rd sz u (m.map f))) (hm : appl bytes l m = some r) (h1 : ∀ x ∈ m, ∀ c ∈ f x, c.oneCell' = true) {ts : Array TypeId} (hts : ts = #[t, t]) (hd : Nat.blt d N = true)
    (h : ∀ v, TO P N B ops rest ((d, v) :: E) (L.set k (OwnS e sz v (r.map f))) Q) : TO P N B ops (⟨some d, .call ⟨.builtin .append, #[x, y], ts⟩, ty, ps, af, none⟩ :: rest) E L Q :=
  TO.step rfl rfl hd (StepW.app ht hsz hx hk hy en hm h1 hts) fun v L' ⟨v0, hv, hL⟩ => by subst hv; subst hL; exact h v

/-- A store into a slice that the call owns. -/
theorem StepW.stO {t e sz n k i off kk : Nat} {x y : Operand} {v u : Value} {css : List (List Value)} {c0 us c1 : List Value} (hx : opv E x = some (ptr v kk)) (hy : opv E y = some u) (hk : L[k]? = some (OwnS e sz v css)) (ht : sizeB P t n = true)
    (hv : u.cells = us.toArray) (hl : us.length = n) (hkk : kk = i * sz + off) (hi : css[i]? = some c0) (hfit : off + us.length ≤ c0.length) (h1 : ∀ u ∈ us, u.oneCell' = true) (hcs : splice c0 off us = c1) :
    StepW P N B ⟨dd, .store t x y, ty, ps, af, gd⟩ E L (fun u L' => u = undef ∧ L' = L.set k (OwnS e sz v (css.set i c1))) := by
  refine StepW.of_skip fun a w en s => ?_
  obtain ⟨h, sh, hlen, hr⟩ := s.get (Ent.at k hk)
  have hlt : i < css.length := (List.getElem?_eq_some_iff.1 hi).1
  have hc0 : c0.length = sz := hlen c0 (List.mem_of_getElem? hi)
  rcases hr with ⟨⟨a', rfl⟩, rfl⟩ | ⟨g, og, cap, cur, rfl, hcap, hmax, hg, hsize, htake⟩
  · simp at hlt
  have hgw := sh g _ hg
  have hbound : i * sz + sz ≤ css.length * sz := by
    have : (i + 1) * sz ≤ css.length * sz := Nat.mul_le_mul_right _ hlt
    rw [Nat.add_mul] at this; omega
  have hcb : css.length * sz ≤ cap * sz := Nat.mul_le_mul_right _ hcap
  have hfit2 : og + (i * sz + off) + us.length ≤ cur.size := by omega
  obtain ⟨D, hD⟩ : ∃ D, D = cur.toList.drop og := ⟨_, rfl⟩
  have hDl : cap * sz ≤ D.length := by rw [hD, List.length_drop, Array.length_toList]; omega
  have hfit' : (i * sz + off) + us.length ≤ D.length := by omega
  rw [← hD] at htake
  have hx' : a.eval x = .pointer (some ⟨g, og + (i * sz + off), none⟩) := by rw [en.eval hx, hkk]; simp [blk, ofs]
  refine ⟨_, w.setRow g (splice cur.toList (og + (i * sz + off)) us).toArray, by simp [execOp, hx', en.eval hy, run_store ht hgw hv hl hfit2 h1], ⟨rfl, rfl⟩, s.os, s.tape, s.output, ?_⟩
  rw [hw_setRow hgw]
  have hc1 : c1.length = sz := by
    subst hcs; unfold splice; simp only [List.length_append, List.length_take, List.length_drop]; omega
  have hall : ∀ c ∈ css.set i c1, c.length = sz := fun c hc => by
    rcases List.mem_or_eq_of_mem_set hc with q | q
    · exact hlen c q
    · rw [q]; exact hc1
  refine (Sat.upd k hk s.sat fun h1 s1 ho => ⟨?_, hall, .inr ⟨g, og, cap, _, by simp, by simpa using hcap, hmax, put_same _ _ _, ?_, ?_⟩⟩).1
  · rcases ho.2 with ⟨⟨a', he⟩, _⟩ | ⟨g', og', cap'', cur', he, _, _, hg', _⟩
    · have := congrArg (fun v => match v with | Value.slice _ n _ => n | _ => 0) he
      simp at this
      rw [this] at hlt
      simp at hlt
    · cases he; rw [hg']; simp
  · unfold splice; simp only [List.size_toArray, List.length_append, List.length_take, List.length_drop, Array.length_toList]; omega
  · rw [List.toList_toArray, drop_splice (by rw [Array.length_toList]; omega), ← hD]
    apply List.ext_getElem?
    intro j
    rw [List.length_set, List.getElem?_take]
    have hfl : (css.set i c1).flatten.length = css.length * sz := by rw [flat_len hall, List.length_set]
    split
    · rename_i hj
      have hsz : 0 < sz := by rcases Nat.eq_zero_or_pos sz with q | q; rw [q] at hj; omega; exact q
      have hq : j / sz < css.length := (Nat.div_lt_iff_lt_mul hsz).2 hj
      have hrm : j % sz < sz := Nat.mod_lt _ hsz
      have hdm : j / sz * sz + j % sz = j := by rw [Nat.mul_comm]; exact Nat.div_add_mod j sz
      have hold : ∀ c (hc : css[j / sz]? = some c) u, c[j % sz]? = some u → D[j]? = some u := fun c hc u hu => by
        have := flat_get hlen _ _ _ _ hc hu
        rw [hdm, ← htake, List.getElem?_take, if_pos hj] at this
        exact this
      by_cases hji : j / sz = i
      · have hci : (css.set i c1)[j / sz]? = some c1 := by rw [hji, List.getElem?_set_self hlt]
        have hu : c1[j % sz]? = some (c1[j % sz]'(by omega)) := List.getElem?_eq_getElem (by omega)
        have hnew := flat_get hall _ _ _ _ hci hu
        rw [hdm] at hnew
        rw [hnew, ← hu, ← hcs]
        have hjo : j = i * sz + j % sz := by rw [← hji]; exact hdm.symm
        have hsp : ∀ (cs : List Value) (o p : Nat), o + us.length ≤ cs.length → (splice cs o us)[p]? = if p < o then cs[p]? else if p < o + us.length then us[p - o]? else cs[p]? := fun cs o p hle => by
          unfold splice
          by_cases q : p < o
          · rw [if_pos q, List.append_assoc, List.getElem?_append_left (by simp; omega), List.getElem?_take, if_pos q]
          · rw [if_neg q]
            by_cases q2 : p < o + us.length
            · rw [if_pos q2, List.getElem?_append_left (by simp; omega), List.getElem?_append_right (by simp; omega)]
              congr 1; simp; omega
            · rw [if_neg q2, List.getElem?_append_right (by simp; omega), List.getElem?_drop]
              congr 1; simp; omega
        rw [hsp _ _ _ hfit', hsp _ _ _ hfit]
        by_cases q : j % sz < off
        · rw [if_pos (by omega), if_pos q]
          have hcc : css[j / sz]? = some c0 := by rw [hji]; exact hi
          have hu0 : c0[j % sz]? = some (c0[j % sz]'(by omega)) := List.getElem?_eq_getElem (by omega)
          rw [hold c0 hcc _ hu0, hu0]
        · rw [if_neg (by omega), if_neg q]
          by_cases q2 : j % sz < off + us.length
          · rw [if_pos (by omega), if_pos q2]; congr 1; omega
          · rw [if_neg (by omega), if_neg q2]
            have hcc : css[j / sz]? = some c0 := by rw [hji]; exact hi
            have hu0 : c0[j % sz]? = some (c0[j % sz]'(by omega)) := List.getElem?_eq_getElem (by omega)
            rw [hold c0 hcc _ hu0, hu0]
      · have hcc : css[j / sz]? = some css[j / sz] := List.getElem?_eq_getElem hq
        have hcl : (css[j / sz]).length = sz := hlen _ (List.getElem_mem hq)
        have hci : (css.set i c1)[j / sz]? = some css[j / sz] := by rw [List.getElem?_set_ne (Ne.symm hji)]; exact hcc
        have hu : (css[j / sz])[j % sz]? = some ((css[j / sz])[j % sz]'(by omega)) := List.getElem?_eq_getElem (by omega)
        have hnew := flat_get hall _ _ _ _ hci hu
        rw [hdm] at hnew
        rw [hnew]
        have ho := hold _ hcc _ hu
        rw [← ho]
        unfold splice
        rcases Nat.lt_or_gt_of_ne hji with q | q
        · have : j < i * sz := by
            have : (j / sz + 1) * sz ≤ i * sz := Nat.mul_le_mul_right _ q
            rw [Nat.add_mul] at this; omega
          rw [List.append_assoc, List.getElem?_append_left (by simp; omega), List.getElem?_take, if_pos (by omega)]
        · have : i * sz + sz ≤ j := by
            have : (i + 1) * sz ≤ j / sz * sz := Nat.mul_le_mul_right _ q
            rw [Nat.add_mul] at this; omega
          rw [List.getElem?_append_right (by simp; omega), List.getElem?_drop]
          congr 1; simp; omega
    · rename_i hj
      rw [List.getElem?_eq_none (by omega)]
theorem TO.stO {t e sz n i off kk : Nat} {x y : Operand} {v u : Value} {α : Type} {f : α → List Value} {l : List α} {y0 : α} {us : List Value} (k : Nat) (y1 : α) (hx : opv E x = some (ptr v kk)) (hy : opv E y = some u) (hk : L[k]? = some (OwnS e sz v (l.map f)))
    (ht : sizeB P t n = true) (hv : u.cells = us.toArray) (hl : us.length = n) (hkk : kk = i * sz + off) (hi : l[i]? = some y0) (hfit : Nat.ble (off + us.length) (f y0).length = true) (h1 : ∀ u ∈ us, u.oneCell' = true) (hcs : splice (f y0) off us = f y1)
    (h : TO P N B ops rest E (L.set k (OwnS e sz v ((l.set i y1).map f))) Q) : TO P N B ops (⟨none, .store t x y, ty, ps, af, none⟩ :: rest) E L Q :=
  TO.step0 rfl rfl (StepW.stO hx hy hk ht hv hl hkk (c0 := f y0) (by rw [List.getElem?_map, hi]; rfl) (by simpa [Nat.ble_eq] using hfit) h1 hcs) fun u L' ⟨_, hL⟩ => by subst hL; rw [List.map_set] at h; exact h

/-! Arrays that lie in memory: an element's address. -/
theorem StepS.aidx {t n e sz j b o : Nat} {x y : Operand} {k : IntKind} {i : Int} (hx : opv E x = some (.pointer (some ⟨b, o, none⟩))) (hy : opv E y = some (.int k i)) (ht : arrB P t n e sz = true)
    (hi : 0 ≤ i ∧ i < (n : Int)) (hj : i.toNat * sz = j) : StepS P N B ⟨dd, .indexAddr t x y, ty, ps, af, gd⟩ E L (.pointer (some ⟨b, o + j, none⟩)) := by
  intro a w en s
  obtain ⟨hu, hs⟩ := arrB_spec ht
  subst hj
  simp [execOp, en.eval hx, en.eval hy, Instr.indexAt, run_underlying hu, asIntOf, Instr.sureAddr, hi.1, hi.2, run_sizeB hs, add_lit]
theorem StepS.aidxp {t n e sz j kk : Nat} {x y : Operand} {v : Value} {k : IntKind} {i : Int} (hx : opv E x = some (ptr v kk)) (hy : opv E y = some (.int k i)) (ht : arrB P t n e sz = true)
    (hi : 0 ≤ i ∧ i < (n : Int)) (hj : i.toNat * sz = j) : StepS P N B ⟨dd, .indexAddr t x y, ty, ps, af, gd⟩ E L (ptr v (kk + j)) := by
  intro a w en s
  obtain ⟨hu, hs⟩ := arrB_spec ht
  subst hj
  simp [execOp, en.eval hx, en.eval hy, Instr.indexAt, run_underlying hu, asIntOf, Instr.sureAddr, hi.1, hi.2, run_sizeB hs, add_lit, Nat.add_assoc]
theorem TO.callOw {j dj : Nat} {want b : Bool} (hj : (ops[j]?).bind (·.dst) = some dj) (hE : lk E dj = some (.bool b)) (hb : b = want) {k : Nat} (hk : callB P k = true) {f : Operand} {as : List Operand} {ts : Array TypeId} {vs : List Value} {R : Value → List HP → Prop}
    (hf : opv E f = some (.func (.func k) #[] #[])) (ha : opvs E as = some vs) (hd : Nat.blt d N = true)
    (hc : ∀ w, St B L w → Calls P k vs.toArray w (fun e w' => ∃ v M, e = .returned v ∧ R v M ∧ St B M w')) (h : ∀ v M, R v M → TO P N B ops rest ((d, v) :: E) M Q) :
    TO P N B ops (⟨some d, .call ⟨.value f, as.toArray, ts⟩, ty, ps, af, some (j, want)⟩ :: rest) E L Q :=
  TO.want rfl hj hE hb rfl hd (StepW.call hk hf ha (by simp) hc) h
theorem TC.ghost {c : Code} {X : Post} {L' : List HP} (hs : ∀ h, Sat L h → Sat L' h) (h : TC P N B c E L' X) : TC P N B c E L X := fun a w e s => h a w e (s.mono hs)
end
end Go.Bk
