/-
  Rules for memory: boxes (a variable, a struct that lies in memory), slices that are read. Nothing of any program stands here.
-/
import Derived.Test.YtgofkfhkolkfmaaBk3
namespace Go.Bk
open Go
set_option linter.unusedVariables false
set_option linter.unusedSimpArgs false

/-! Closed facts on types, as tests. -/
def scalB (P : Program) (t : TypeId) : Bool := match P.underlying t with
  | some (.struct _) | some (.array _ _) | none => false
  | some _ => true
def sizeB (P : Program) (t n : Nat) : Bool := match P.info? t with | some i => Nat.beq i.size n | none => false
def aggB (P : Program) (t n : Nat) : Bool := (match P.underlying t with | some (.struct _) | some (.array _ _) => true | _ => false) && sizeB P t n
def sliceB (P : Program) (t e sz : Nat) : Bool := (match P.underlying t with | some (.slice e') => Nat.beq e' e | _ => false) && sizeB P e sz
def fieldB (P : Program) (s i off : Nat) : Bool := match P.underlying s with
  | some (.struct fs) => match fs[i]? with
    | some f => Nat.beq f.offset off && (match P.info? f.type with | some x => !Nat.beq x.size 0 | none => false)
    | none => false
  | _ => false
def intB (P : Program) (t : TypeId) (k : IntKind) : Bool := match P.underlying t with | some (.int k') => decide (k' = k) | _ => false

theorem sizeB_spec {P : Program} {t n : Nat} (h : sizeB P t n = true) : ∃ i, P.info? t = some i ∧ i.size = n := by
  unfold sizeB at h
  cases x : P.info? t with
  | none => rw [x] at h; cases h
  | some i => rw [x] at h; exact ⟨i, rfl, Nat.eq_of_beq_eq_true h⟩
theorem run_sizeB {P : Program} {t n : Nat} (h : sizeB P t n = true) (w : World) : (sizeOf t).run P w = .ok n w := by
  obtain ⟨i, hi, hs⟩ := sizeB_spec h
  simp [sizeOf, typeInfo, hi, hs]
theorem sliceB_spec {P : Program} {t e sz : Nat} (h : sliceB P t e sz = true) : P.underlying t = some (.slice e) ∧ sizeB P e sz = true := by
  unfold sliceB at h
  simp only [Bool.and_eq_true] at h
  refine ⟨?_, h.2⟩
  cases x : P.underlying t with
  | none => rw [x] at h; cases h.1
  | some d =>
    rw [x] at h
    cases d with
    | slice e' => have he : e' = e := Nat.eq_of_beq_eq_true h.1
                  rw [he]
    | _ => exact absurd h.1 (by simp)
theorem intB_spec {P : Program} {t : TypeId} {k : IntKind} (h : intB P t k = true) : P.underlying t = some (.int k) := by
  unfold intB at h
  cases x : P.underlying t with
  | none => rw [x] at h; cases h
  | some d => rw [x] at h; cases d <;> simp at h; rw [h]
theorem run_scal {P : Program} {t : TypeId} (h : scalB P t = true) (w : World) : (isAgg t).run P w = .ok false w := by
  unfold scalB at h
  cases x : P.underlying t with
  | none => rw [x] at h; cases h
  | some d => rw [x] at h; unfold isAgg; simp only [Sem.run_bind, run_underlying x, Result.andThen_ok]; cases d <;> simp at h ⊢
theorem run_agg {P : Program} {t n : Nat} (h : aggB P t n = true) (w : World) : (isAgg t).run P w = .ok true w := by
  unfold aggB at h
  simp only [Bool.and_eq_true] at h
  cases x : P.underlying t with
  | none => rw [x] at h; cases h.1
  | some d => rw [x] at h; unfold isAgg; simp only [Sem.run_bind, run_underlying x, Result.andThen_ok]; cases d <;> simp at h ⊢
theorem aggB_size {P : Program} {t n : Nat} (h : aggB P t n = true) : sizeB P t n = true := by unfold aggB at h; simp only [Bool.and_eq_true] at h; exact h.2
theorem run_field {P : Program} {s i off : Nat} (h : fieldB P s i off = true) (a : Addr) (w : World) : (Instr.fieldAt s (.pointer (some a)) i).run P w = .ok (.pointer (some (a.add off))) w := by
  unfold fieldB at h
  cases x : P.underlying s with
  | none => rw [x] at h; cases h
  | some d =>
    rw [x] at h
    cases d with
    | struct fs =>
      simp only at h
      cases y : fs[i]? with
      | none => rw [y] at h; cases h
      | some f =>
        rw [y] at h
        simp only [Bool.and_eq_true] at h
        cases z : P.info? f.type with
        | none => rw [z] at h; cases h.2
        | some q =>
          rw [z] at h
          have hne : q.size ≠ 0 := fun e => by have := h.2; simp only [e] at this; cases this
          have hoff := Nat.eq_of_beq_eq_true h.1
          simp [Instr.fieldAt, run_underlying x, y, Instr.sureAddr, fieldPlace, sizeOf, typeInfo, z, hne, hoff]
    | _ => simp at h

/-! Cells. -/
theorem add_lit (b o k : Nat) : (⟨b, o, none⟩ : Addr).add k = ⟨b, o + k, none⟩ := Addr.add_lit b o k
theorem cell_of {w : World} {b : Nat} {arr : Array Value} {e : TypeId} {fz : Nat × Nat} (h : hw w b = some (.cells arr e fz)) (o : Nat) : w.cell? ⟨b, o, none⟩ = arr[o]? := by
  simp only [hw] at h; simp [World.cell?, h]
theorem run_load1 {P : Program} {t : TypeId} (h : scalB P t = true) {w : World} {a : Addr} {v : Value} (hc : w.cell? a = some v) : (Instr.loadAt t (.pointer (some a))).run P w = .ok v w := by
  simp [Instr.loadAt, Instr.sureAddr, loadVar, run_scal h, hc]
theorem run_loadA {P : Program} {t n : Nat} (h : aggB P t n = true) {w : World} {a : Addr} {cs : List Value} (hl : cs.length = n) (hc : ∀ j v, cs[j]? = some v → w.cell? (a.add j) = some v) :
    (Instr.loadAt t (.pointer (some a))).run P w = .ok (.agg cs.toArray) w := by
  subst hl
  simp [Instr.loadAt, Instr.sureAddr, loadVar, run_agg h, run_sizeB (aggB_size h), run_loadCells_list w a cs hc]
theorem hw_setRow {w : World} {g : Nat} {cur cs : Array Value} {e : TypeId} {fz : Nat × Nat} (h : hw w g = some (.cells cur e fz)) : hw (w.setRow g cs) = put (hw w) g (.cells cs e fz) := by
  funext c
  by_cases hc : c = g
  · subst hc; rw [put_same]; exact setRow_heap w c cur cs e fz h
  · rw [put_ne _ _ hc]; exact setRow_other w g c cs hc
/-- A row of cells, some of them new. -/
def splice (cs : List Value) (o : Nat) (us : List Value) : List Value := cs.take o ++ us ++ cs.drop (o + us.length)
theorem run_store {P : Program} {t n : Nat} (hs : sizeB P t n = true) {w : World} {g o : Nat} {cur : Array Value} {e : TypeId} (hg : hw w g = some (.cells cur e (0, 0))) {v : Value} {us : List Value} (hv : v.cells = us.toArray) (hl : us.length = n)
    (hfit : o + us.length ≤ cur.size) (h1 : ∀ u ∈ us, u.oneCell' = true) : (Instr.storeAt t (.pointer (some ⟨g, o, none⟩)) v).run P w = .ok () (w.setRow g (splice cur.toList o us).toArray) := by
  have := run_storeCells_at P g o e us 0 cur w hg (by simpa using hfit) h1
  simp only [Nat.add_zero] at this
  simp [Instr.storeAt, Instr.sureAddr, storeVar, hv, run_sizeB hs, hl, this, splice]

/-! Boxes. -/
def Bx (b : Nat) (e : TypeId) (cs : List Value) : HP := fun h => h b = some (.cells cs.toArray e (0, 0))

section
variable {P : Program} {N : Nat} {B : World} {E : Env} {L : List HP} {ops : Array Oper} {rest : List Oper} {Q : Act → World → Prop}
variable {d : Nat} {dd : Option Tmp} {ty : TypeId} {ps : String} {af : Array Edge} {gd : Option (Nat × Bool)}

theorem St.get {A : HP} {w : World} (s : St B L w) (e : Ent L A) : ∃ h, Sub h (hw w) ∧ A h := e _ s.sat

theorem run_alloc {t : TypeId} {z : Value} {cs : List Value} (hz : (P.info? t).bind (·.zero) = some z) (hc : z.cells = cs.toArray) (w : World) :
    (Instr.alloc t true (.tuple #[])).run P w = .ok (.pointer (some ⟨w.heap.size, 0, none⟩)) (w.alloc (.cells cs.toArray t)) := by
  cases x : P.info? t with
  | none => rw [x] at hz; cases hz
  | some i =>
    rw [x] at hz
    have hz' : i.zero = some z := hz
    simp [Instr.alloc, zeroValue, typeInfo, x, hz', newVar, newRow, hc]
theorem StepW.alloc {t : TypeId} {z : Value} {cs : List Value} (hz : (P.info? t).bind (·.zero) = some z) (hc : z.cells = cs.toArray) :
    StepW P N B ⟨dd, .alloc t, ty, ps, af, gd⟩ E L (fun v L' => ∃ b, v = .pointer (some ⟨b, 0, none⟩) ∧ L' = Bx b t cs :: L) :=
  StepW.of_run fun a w _ s => ⟨_, _, w.alloc (.cells cs.toArray t), by simp [execOp, run_alloc hz hc w], ⟨w.heap.size, rfl, rfl⟩, s.new (by simp [Bx, put_same])⟩
theorem TO.alloc {t : TypeId} {z : Value} {cs : List Value} (hz : (P.info? t).bind (·.zero) = some z) (hc : z.cells = cs.toArray) (hd : Nat.blt d N = true)
    (h : ∀ b, TO P N B ops rest ((d, .pointer (some ⟨b, 0, none⟩)) :: E) (Bx b t cs :: L) Q) : TO P N B ops (⟨some d, .alloc t, ty, ps, af, none⟩ :: rest) E L Q :=
  TO.step rfl rfl hd (StepW.alloc hz hc) fun v L' ⟨b, hv, hL⟩ => by subst hv; subst hL; exact h b
theorem StepW.box {t : TypeId} {x : Operand} {v : Value} {cs : List Value} (hx : opv E x = some v) (hc : v.cells = cs.toArray) :
    StepW P N B ⟨dd, .box t x, ty, ps, af, gd⟩ E L (fun v L' => ∃ b, v = .pointer (some ⟨b, 0, none⟩) ∧ L' = Bx b t cs :: L) :=
  StepW.of_run fun a w e s => ⟨_, _, w.alloc (.cells cs.toArray t), by simp [execOp, Instr.box, newVar, newRow, e.eval hx, hc], ⟨w.heap.size, rfl, rfl⟩, s.new (by simp [Bx, put_same])⟩
theorem TO.box {t : TypeId} {x : Operand} {v : Value} {cs : List Value} (hx : opv E x = some v) (hc : v.cells = cs.toArray) (hd : Nat.blt d N = true)
    (h : ∀ b, TO P N B ops rest ((d, .pointer (some ⟨b, 0, none⟩)) :: E) (Bx b t cs :: L) Q) : TO P N B ops (⟨some d, .box t x, ty, ps, af, none⟩ :: rest) E L Q :=
  TO.step rfl rfl hd (StepW.box hx hc) fun v L' ⟨b, hv, hL⟩ => by subst hv; subst hL; exact h b

/-- The address of a field. -/
theorem StepS.fld {s i off b o : Nat} {x : Operand} (hx : opv E x = some (.pointer (some ⟨b, o, none⟩))) (hf : fieldB P s i off = true) :
    StepS P N B ⟨dd, .fieldAddr s x i, ty, ps, af, gd⟩ E L (.pointer (some ⟨b, o + off, none⟩)) :=
  fun a w e _ => by simp [execOp, e.eval hx, run_field hf, add_lit]
/-- A cell of a box. -/
theorem StepS.ldB {t e b o : Nat} {x : Operand} {cs : List Value} {v : Value} (hx : opv E x = some (.pointer (some ⟨b, o, none⟩))) (en : Ent L (Bx b e cs)) (ht : scalB P t = true) (hv : cs[o]? = some v) :
    StepS P N B ⟨dd, .load t x, ty, ps, af, gd⟩ E L v := by
  intro a w en' s
  obtain ⟨h, sh, hb⟩ := s.get en
  have := cell_of (sh b _ hb) o
  rw [show (cs.toArray)[o]? = some v by simpa using hv] at this
  simp [execOp, en'.eval hx, run_load1 ht this]
/-- A part of a box, of several cells. -/
theorem StepS.ldBA {t e b o n : Nat} {x : Operand} {cs ds : List Value} (hx : opv E x = some (.pointer (some ⟨b, o, none⟩))) (en : Ent L (Bx b e cs)) (ht : aggB P t n = true) (hds : (cs.drop o).take n = ds) (hl : ds.length = n) :
    StepS P N B ⟨dd, .load t x, ty, ps, af, gd⟩ E L (.agg ds.toArray) := by
  intro a w en' s
  obtain ⟨h, sh, hb⟩ := s.get en
  have : (Instr.loadAt t (.pointer (some ⟨b, o, none⟩))).run P w = .ok (.agg ds.toArray) w := by
    refine run_loadA ht hl fun j v hj => ?_
    rw [add_lit, cell_of (sh b _ hb)]
    subst hds
    rw [List.getElem?_take] at hj
    split at hj
    · rw [List.getElem?_drop] at hj; simpa using hj
    · cases hj
  simp [execOp, en'.eval hx, this]
/-- A store into a box. -/
theorem StepW.stB {t e b o n k : Nat} {x y : Operand} {cs us cs' : List Value} {v : Value} (hx : opv E x = some (.pointer (some ⟨b, o, none⟩))) (hy : opv E y = some v) (hk : L[k]? = some (Bx b e cs)) (ht : sizeB P t n = true)
    (hv : v.cells = us.toArray) (hl : us.length = n) (hfit : o + us.length ≤ cs.length) (h1 : ∀ u ∈ us, u.oneCell' = true) (hcs : splice cs o us = cs') :
    StepW P N B ⟨dd, .store t x y, ty, ps, af, gd⟩ E L (fun u L' => u = undef ∧ L' = L.set k (Bx b e cs')) := by
  refine StepW.of_skip fun a w en s => ?_
  obtain ⟨h, sh, hb⟩ := s.get (Ent.at k hk)
  have hg := sh b _ hb
  refine ⟨_, w.setRow b (splice cs o us).toArray, by simp [execOp, en.eval hx, en.eval hy, run_store ht hg hv hl (by simpa using hfit) h1], ⟨rfl, rfl⟩, s.os, s.tape, s.output, ?_⟩
  rw [hw_setRow hg]
  refine (Sat.upd k hk s.sat fun h1 _ hb1 => ⟨by rw [hb1]; simp, ?_⟩).1
  simp [Bx, put_same, ← hcs]
theorem TO.stB {t e b o n : Nat} {x y : Operand} {cs us : List Value} {v : Value} (k : Nat) (cs' : List Value) (hx : opv E x = some (.pointer (some ⟨b, o, none⟩))) (hy : opv E y = some v) (hk : L[k]? = some (Bx b e cs)) (ht : sizeB P t n = true)
    (hv : v.cells = us.toArray) (hl : us.length = n) (hfit : Nat.ble (o + us.length) cs.length = true) (h1 : ∀ u ∈ us, u.oneCell' = true) (hcs : splice cs o us = cs')
    (h : TO P N B ops rest E (L.set k (Bx b e cs')) Q) : TO P N B ops (⟨none, .store t x y, ty, ps, af, none⟩ :: rest) E L Q :=
  TO.step0 rfl rfl (StepW.stB hx hy hk ht hv hl (by simpa [Nat.ble_eq] using hfit) h1 hcs) fun u L' ⟨_, hL⟩ => by subst hL; exact h

/-! Slices that are read: a header, the cells of each element. -/
def Seg (arr : Array Value) (o sz : Nat) (css : List (List Value)) : Prop := ∀ (i : Nat) (c : List Value) (j : Nat) (v : Value), css[i]? = some c → c[j]? = some v → arr[o + (i * sz + j)]? = some v
def Rd (sz : Nat) (v : Value) (css : List (List Value)) : HP := fun h =>
  (∀ c ∈ css, c.length = sz) ∧ (((∃ a, v = .slice a 0 0) ∧ css = []) ∨
    ∃ b o cap arr e fz, v = .slice (some ⟨b, o, none⟩) css.length cap ∧ css.length ≤ cap ∧ cap ≤ maxLen ∧ h b = some (.cells arr e fz) ∧ Seg arr o sz css)
def blk : Value → Nat | .slice (some a) _ _ => a.block | _ => 0
def ofs : Value → Nat | .slice (some a) _ _ => a.off | _ => 0
/-- The address of a cell of a slice. -/
@[reducible] def ptr (v : Value) (k : Nat) : Value := .pointer (some ⟨blk v, ofs v + k, none⟩)

theorem StepS.len {t e sz : Nat} {x : Operand} {v : Value} {css : List (List Value)} (hx : opv E x = some v) (en : Ent L (Rd sz v css)) (ht : sliceB P t e sz = true) {ts : Array TypeId} (hts : ts = #[t]) :
    StepS P N B ⟨dd, .call ⟨.builtin .len, #[x], ts⟩, ty, ps, af, gd⟩ E L (.int .i64 (css.length : Int)) := by
  subst hts
  intro a w en' s
  obtain ⟨h, sh, hlen, hr⟩ := s.get en
  have hu := (sliceB_spec ht).1
  rcases hr with ⟨⟨ad, rfl⟩, rfl⟩ | ⟨b, o, cap, arr, el, fz, rfl, _⟩ <;>
    simp [execOp, resolve, invoke, builtin, en'.eval hx, Builtin.len_, run_underlying hu, goInt]
theorem StepS.idx {t e sz : Nat} {x y : Operand} {v : Value} {css : List (List Value)} {k : IntKind} {i : Int} (hx : opv E x = some v) (hy : opv E y = some (.int k i)) (en : Ent L (Rd sz v css)) (ht : sliceB P t e sz = true)
    (h0 : 0 ≤ i) (h1 : i < css.length) : StepS P N B ⟨dd, .indexAddr t x y, ty, ps, af, gd⟩ E L (ptr v (i.toNat * sz)) := by
  intro a w en' s
  obtain ⟨h, sh, hlen, hr⟩ := s.get en
  obtain ⟨hu, hs⟩ := sliceB_spec ht
  rcases hr with ⟨⟨ad, rfl⟩, rfl⟩ | ⟨b, o, cap, arr, el, fz, rfl, _⟩
  · simp at h1; omega
  · simp [execOp, en'.eval hx, en'.eval hy, Instr.indexAt, run_underlying hu, asIntOf, h0, h1, run_sizeB hs, blk, ofs, add_lit]
theorem StepS.ptrf {s i off : Nat} {x : Operand} {v : Value} {k : Nat} (hx : opv E x = some (ptr v k)) (hf : fieldB P s i off = true) :
    StepS P N B ⟨dd, .fieldAddr s x i, ty, ps, af, gd⟩ E L (ptr v (k + off)) :=
  fun a w e _ => by simp [execOp, e.eval hx, run_field hf, add_lit, Nat.add_assoc]
/-- One cell of an element. -/
theorem StepS.ld1 {t sz i j k : Nat} {x : Operand} {v u : Value} {css : List (List Value)} {c : List Value} (hx : opv E x = some (ptr v k)) (en : Ent L (Rd sz v css)) (ht : scalB P t = true)
    (hk : k = i * sz + j) (hc : css[i]? = some c) (hj : c[j]? = some u) : StepS P N B ⟨dd, .load t x, ty, ps, af, gd⟩ E L u := by
  intro a w en' s
  obtain ⟨h, sh, hlen, hr⟩ := s.get en
  rcases hr with ⟨⟨ad, rfl⟩, rfl⟩ | ⟨b, o, cap, arr, el, fz, rfl, _, _, hb, seg⟩
  · simp at hc
  · have := cell_of (sh b _ hb) (o + k)
    rw [hk, seg i c j u hc hj] at this
    have hx' : a.eval x = .pointer (some ⟨b, o + (i * sz + j), none⟩) := by rw [en'.eval hx, hk]; rfl
    simp [execOp, hx', run_load1 ht this]
/-- A whole element of several cells. -/
theorem StepS.ldE {t sz i k : Nat} {x : Operand} {v : Value} {css : List (List Value)} {c : List Value} (hx : opv E x = some (ptr v k)) (en : Ent L (Rd sz v css)) (ht : aggB P t sz = true)
    (hk : k = i * sz) (hc : css[i]? = some c) : StepS P N B ⟨dd, .load t x, ty, ps, af, gd⟩ E L (.agg c.toArray) := by
  intro a w en' s
  obtain ⟨h, sh, hlen, hr⟩ := s.get en
  rcases hr with ⟨⟨ad, rfl⟩, rfl⟩ | ⟨b, o, cap, arr, el, fz, rfl, _, _, hb, seg⟩
  · simp at hc
  · have hx' : a.eval x = .pointer (some ⟨b, o + i * sz, none⟩) := by rw [en'.eval hx, hk]; rfl
    have : (Instr.loadAt t (.pointer (some ⟨b, o + i * sz, none⟩))).run P w = .ok (.agg c.toArray) w := by
      refine run_loadA ht (hlen c (List.mem_of_getElem? hc)) fun j u hj => ?_
      rw [add_lit, cell_of (sh b _ hb), Nat.add_assoc]
      exact seg i c j u hc hj
    simp [execOp, hx', this]
end
end Go.Bk
