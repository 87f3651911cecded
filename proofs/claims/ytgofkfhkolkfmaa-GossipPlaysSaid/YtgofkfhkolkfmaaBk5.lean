/-
  Rules for slices that a call owns, conversions, calls. Nothing of any program stands here.
-/
import Derived.Test.YtgofkfhkolkfmaaBk4
namespace Go.Bk
open Go
set_option linter.unusedVariables false
set_option linter.unusedSimpArgs false

@[reducible] def cI (n : Int) : List Value := [I n]
@[reducible] def cU (n : BitVec 32) : List Value := [U n]
@[reducible] def cB (b : Bool) : List Value := [.bool b]
@[reducible] def cS (s : ByteArray) : List Value := [.string s]
def mx (x y : Int) : Int := if y > x then y else x
def mn (x y : Int) : Int := if y < x then y else x
/-- A divisor: none stands for a panic. -/
def nz (n : Int) : Option Unit := if n = 0 then none else some ()
theorem nz_spec {n : Int} {u : Unit} (h : nz n = some u) : n ≠ 0 := by unfold nz at h; split at h; cases h; assumption

theorem idxm {α : Type} {l : List α} {i : Int} {x : α} (h : idx l i = some x) {f : α → List Value} : (l.map f)[i.toNat]? = some (f x) := by simp [(idx_spec h).2]
theorem idxm_lt {α : Type} {l : List α} {i : Int} {x : α} (h : idx l i = some x) {f : α → List Value} : i < ((l.map f).length : Int) := by simpa using idx_lt h

theorem Ent.nil {sz : Nat} {L : List HP} {α : Type} {f : α → List Value} : Ent L (Rd sz (.slice none 0 0) (([] : List α).map f)) :=
  fun _ _ => ⟨fun _ => none, fun _ _ e => (by cases e), fun _ h => (by cases h), .inl ⟨⟨none, rfl⟩, rfl⟩⟩

/-- A slice whose array the call owns. -/
def OwnS (e sz : Nat) (v : Value) (css : List (List Value)) : HP := fun h =>
  (∀ c ∈ css, c.length = sz) ∧ (((∃ a, v = .slice a 0 0) ∧ css = []) ∨
    ∃ g o cap cur, v = .slice (some ⟨g, o, none⟩) css.length cap ∧ css.length ≤ cap ∧ cap ≤ maxLen ∧ h g = some (.cells cur e (0, 0)) ∧ o + cap * sz ≤ cur.size ∧ (cur.toList.drop o).take (css.length * sz) = css.flatten)
theorem flat_len {sz : Nat} : ∀ {css : List (List Value)}, (∀ c ∈ css, c.length = sz) → css.flatten.length = css.length * sz
  | [], _ => by simp
  | c :: css, h => by
    have := flat_len (css := css) (fun d hd => h d (List.mem_cons_of_mem c hd))
    rw [List.flatten_cons, List.length_append, this, h c (by simp), List.length_cons, Nat.add_mul]; omega
theorem flat_get {sz : Nat} : ∀ {css : List (List Value)}, (∀ c ∈ css, c.length = sz) → ∀ (i : Nat) (c : List Value) (j : Nat) (u : Value), css[i]? = some c → c[j]? = some u → css.flatten[i * sz + j]? = some u
  | [], _, i, c, j, u, h, _ => by simp at h
  | d :: css, hl, i, c, j, u, h, hu => by
    have hd : d.length = sz := hl d (by simp)
    cases i with
    | zero =>
      simp at h
      subst h
      have : j < d.length := (List.getElem?_eq_some_iff.1 hu).1
      rw [List.flatten_cons, Nat.zero_mul, Nat.zero_add, List.getElem?_append_left this, hu]
    | succ i =>
      rw [List.flatten_cons, List.getElem?_append_right (by rw [hd, Nat.add_mul]; omega)]
      have := flat_get (css := css) (fun e he => hl e (List.mem_cons_of_mem d he)) i c j u (by simpa using h) hu
      rw [show (i + 1) * sz + j - d.length = i * sz + j by rw [hd, Nat.add_mul]; omega]
      exact this
theorem seg_of_take {cur : Array Value} {sz o : Nat} {css : List (List Value)} (hl : ∀ c ∈ css, c.length = sz) (h : (cur.toList.drop o).take (css.length * sz) = css.flatten) : Seg cur o sz css := fun i c j u hi hj => by
  have := flat_get hl i c j u hi hj
  rw [← h, List.getElem?_take] at this
  split at this
  · rw [List.getElem?_drop] at this; simpa using this
  · cases this
theorem OwnS.rd {L : List HP} {e sz : Nat} {v : Value} {css : List (List Value)} (h : Ent L (OwnS e sz v css)) : Ent L (Rd sz v css) :=
  h.imp fun g ⟨hl, hr⟩ => ⟨g, Sub.refl g, hl, hr.imp id fun ⟨b, o, cap, arr, h1, h2, h3, h4, _, h5⟩ => ⟨b, o, cap, arr, e, (0, 0), h1, h2, h3, h4, seg_of_take hl h5⟩⟩
theorem Sat.nilS {L : List HP} {h : PH} {e sz : Nat} {α : Type} {f : α → List Value} (s : Sat L h) : Sat (OwnS e sz (.slice none 0 0) (([] : List α).map f) :: L) h :=
  ⟨fun _ => none, h, fun _ => .inl rfl, fun _ _ e => (by cases e), Sub.refl h, ⟨fun _ h => (by cases h), .inl ⟨⟨none, rfl⟩, rfl⟩⟩, s⟩
theorem OwnS.one {e sz : Nat} {v : Value} {css : List (List Value)} {h : PH} (o : OwnS e sz v css h) : v.oneCell' = true := by
  rcases o.2 with ⟨⟨a, rfl⟩, _⟩ | ⟨b, o, cap, arr, rfl, _⟩ <;> rfl

def callB (P : Program) (k : Nat) : Bool := match P.funcs[k]? with | some fn => fn.body.isSome && !(fn.name == "runtime.NumGoroutine") | none => false

section
variable {P : Program} {N : Nat} {B : World} {E : Env} {L : List HP} {ops : Array Oper} {rest : List Oper} {Q : Act → World → Prop}
variable {d : Nat} {dd : Option Tmp} {ty : TypeId} {ps : String} {af : Array Edge} {gd : Option (Nat × Bool)}

theorem TO.at {l : List Oper} (h : TO P N B ops l E L Q) : ∀ a w, EnvOk N E a → St B L w → wpList P ops (fun e a w => e = .normal ∧ Q a w) l a w := h

theorem StepS.lenm {t e sz : Nat} {x : Operand} {v : Value} {α : Type} {l : List α} {f : α → List Value} (hx : opv E x = some v) (en : Ent L (Rd sz v (l.map f))) (ht : sliceB P t e sz = true) {ts : Array TypeId} (hts : ts = #[t]) :
    StepS P N B ⟨dd, .call ⟨.builtin .len, #[x], ts⟩, ty, ps, af, gd⟩ E L (.int .i64 (l.length : Int)) := by
  have := StepS.len (P := P) (N := N) (B := B) (dd := dd) (ty := ty) (ps := ps) (af := af) (gd := gd) hx en ht hts
  rwa [List.length_map] at this
/-- The first cell of an element. -/
theorem StepS.ld0 {t sz i k : Nat} {x : Operand} {v u : Value} {css : List (List Value)} {c : List Value} (hx : opv E x = some (ptr v k)) (en : Ent L (Rd sz v css)) (ht : scalB P t = true)
    (hk : k = i * sz) (hc : css[i]? = some c) (hj : c[0]? = some u) : StepS P N B ⟨dd, .load t x, ty, ps, af, gd⟩ E L u :=
  StepS.ld1 hx en ht (j := 0) (by rw [hk]; rfl) hc hj
theorem StepS.max2 {x y : Operand} {m n : Int} {ts : Array TypeId} (hx : opv E x = some (I m)) (hy : opv E y = some (I n)) :
    StepS P N B ⟨dd, .call ⟨.builtin .max, #[x, y], ts⟩, ty, ps, af, gd⟩ E L (I (mx m n)) :=
  fun a w e _ => by simp [execOp, resolve, invoke, builtin, e.eval hx, e.eval hy, run_max_int2, mx]
theorem StepS.min2 {x y : Operand} {m n : Int} {ts : Array TypeId} (hx : opv E x = some (I m)) (hy : opv E y = some (I n)) :
    StepS P N B ⟨dd, .call ⟨.builtin .min, #[x, y], ts⟩, ty, ps, af, gd⟩ E L (I (mn m n)) :=
  fun a w e _ => by simp [execOp, resolve, invoke, builtin, e.eval hx, e.eval hy, run_min_int2, mn]
theorem StepS.shlk {x y : Operand} {t u : TypeId} {k : IntKind} {m : BitVec 32} {n : Int} {c : Nat} (hx : opv E x = some (U m)) (hy : opv E y = some (.int k n)) (hn : shc n = some c) :
    StepS P N B ⟨dd, .binOp .shl t x y u, ty, ps, af, gd⟩ E L (U (m <<< c)) := by
  obtain ⟨h0, rfl⟩ := shc_spec hn
  exact StepS.shl hx hy h0
theorem StepS.shrk {x y : Operand} {t u : TypeId} {k : IntKind} {m : BitVec 32} {n : Int} {c : Nat} (hx : opv E x = some (U m)) (hy : opv E y = some (.int k n)) (hn : shc n = some c) :
    StepS P N B ⟨dd, .binOp .shr t x y u, ty, ps, af, gd⟩ E L (U (m >>> c)) := by
  obtain ⟨h0, rfl⟩ := shc_spec hn
  exact StepS.shr hx hy h0

theorem run_cv {src dst : TypeId} {k j : IntKind} (h1 : intB P src k = true) (h2 : intB P dst j = true) (n : Int) (w : World) : (convert src dst (.int k n)).run P w = .ok (.int j (j.wrap n)) w := by
  simp [convert, run_underlying (intB_spec h1), run_underlying (intB_spec h2), Conv.intToInt]
theorem StepS.cvII {src dst : TypeId} {x : Operand} {n : Int} (h1 : intB P src .i64 = true) (h2 : intB P dst .i64 = true) (hx : opv E x = some (I n)) : StepS P N B ⟨dd, .convert src dst x, ty, ps, af, gd⟩ E L (I (w64 n)) :=
  fun a w e _ => by simp [execOp, e.eval hx, run_cv h1 h2, w64]
theorem StepS.cvUI {src dst : TypeId} {x : Operand} {n : BitVec 32} (h1 : intB P src .u32 = true) (h2 : intB P dst .i64 = true) (hx : opv E x = some (U n)) : StepS P N B ⟨dd, .convert src dst x, ty, ps, af, gd⟩ E L (I (n.toNat : Int)) :=
  fun a w e _ => by
    have : IntKind.i64.wrap (n.toNat : Int) = n.toNat := w64_of (by omega) (by have := n.isLt; omega)
    simp [execOp, e.eval hx, run_cv h1 h2, this]
theorem StepS.cvIU {src dst : TypeId} {x : Operand} {n : Int} (h1 : intB P src .i64 = true) (h2 : intB P dst .u32 = true) (hx : opv E x = some (I n)) : StepS P N B ⟨dd, .convert src dst x, ty, ps, af, gd⟩ E L (U (BitVec.ofInt 32 n)) :=
  fun a w e _ => by simp only [execOp, e.eval hx, run_cv h1 h2, wrap_u32, Sem.run_bind, Result.andThen_ok, Sem.run_pure]
theorem StepS.cvIV {src dst : TypeId} {x : Operand} {n : Int} (h1 : intB P src .i64 = true) (h2 : intB P dst .u64 = true) (hx : opv E x = some (I n)) : StepS P N B ⟨dd, .convert src dst x, ty, ps, af, gd⟩ E L (.int .u64 (u64 n)) :=
  fun a w e _ => by simp [execOp, e.eval hx, run_cv h1 h2, u64]

/-! Calls. -/
def opvs (E : Env) : List Operand → Option (List Value)
  | [] => some []
  | x :: l => match opv E x, opvs E l with | some v, some vs => some (v :: vs) | _, _ => none
theorem EnvOk.evals {N : Nat} {E : Env} {a : Act} (e : EnvOk N E a) : ∀ {l : List Operand} {vs : List Value}, opvs E l = some vs → l.map a.eval = vs
  | [], vs, h => by simp [opvs] at h; simp [h]
  | x :: l, vs, h => by
    simp only [opvs] at h
    cases hx : opv E x with
    | none => rw [hx] at h; cases h
    | some v =>
      cases hl : opvs E l with
      | none => rw [hx, hl] at h; cases h
      | some us => rw [hx, hl] at h; obtain rfl := Option.some.inj h; simp [e.eval hx, e.evals hl]
theorem run_call {k : Nat} (hk : callB P k = true) {f : Operand} {as : List Operand} {ts : Array TypeId} {vs : List Value} {fs cs : Array Value} {a : Act} (e : EnvOk N E a) (hf : opv E f = some (.func (.func k) fs cs)) (ha : opvs E as = some vs) (w : World) :
    (execOp a.eval ⟨dd, .call ⟨.value f, as.toArray, ts⟩, ty, ps, af, gd⟩).run P w = .ok (.enter k (fs ++ vs.toArray ++ cs)) w := by
  unfold callB at hk
  cases x : P.funcs[k]? with
  | none => rw [x] at hk; cases hk
  | some fn =>
    rw [x] at hk
    simp only [Bool.and_eq_true] at hk
    have hb : ¬ fn.body = none := by intro y; rw [y] at hk; cases hk.1
    have hn : ¬ fn.name = "runtime.NumGoroutine" := by simpa using hk.2
    have hm : Array.map a.eval as.toArray = vs.toArray := by rw [List.map_toArray, e.evals ha]
    simp [execOp, resolve, hm, e.eval hf, Deferred.ofValue, invoke, callFunc, x, hb, hn]
theorem StepQ.call {k : Nat} (hk : callB P k = true) {f : Operand} {as : List Operand} {ts : Array TypeId} {vs : List Value} {v : Value} (hf : opv E f = some (.func (.func k) #[] #[])) (ha : opvs E as = some vs)
    (hc : ∀ w, St B L w → Calls P k vs.toArray w (fun e w' => e = .returned v ∧ St B L w')) : StepQ P N B ⟨dd, .call ⟨.value f, as.toArray, ts⟩, ty, ps, af, gd⟩ E L v := by
  intro a e w s
  unfold Oper.quietAt
  rw [run_call hk e hf ha w]
  have := hc w s
  simpa [Oper.quietUpon] using this
theorem StepQ.callC {k : Nat} (hk : callB P k = true) {f : Operand} {as : List Operand} {ts : Array TypeId} {vs : List Value} {v : Value} {fs cs al : Array Value} (hf : opv E f = some (.func (.func k) fs cs)) (ha : opvs E as = some vs) (hal : fs ++ vs.toArray ++ cs = al)
    (hc : ∀ w, St B L w → Calls P k al w (fun e w' => e = .returned v ∧ St B L w')) : StepQ P N B ⟨dd, .call ⟨.value f, as.toArray, ts⟩, ty, ps, af, gd⟩ E L v := by
  intro a e w s
  unfold Oper.quietAt
  rw [run_call hk e hf ha w]
  subst hal
  exact ⟨rfl, hc w s⟩
theorem StepS.mkfn {fn : Fn} {as : List Operand} {vs : List Value} (ha : opvs E as = some vs) : StepS P N B ⟨dd, .makeFunc fn #[] as.toArray, ty, ps, af, gd⟩ E L (.func fn #[] vs.toArray) := by
  intro a w e s
  have hm : Array.map a.eval as.toArray = vs.toArray := by rw [List.map_toArray, e.evals ha]
  simp [execOp, Instr.makeFunc, hm]
theorem StepW.call {k : Nat} (hk : callB P k = true) {f : Operand} {as : List Operand} {ts : Array TypeId} {vs : List Value} {fs cs : Array Value} {R : Value → List HP → Prop} {al : Array Value} (hf : opv E f = some (.func (.func k) fs cs)) (ha : opvs E as = some vs)
    (hal : fs ++ vs.toArray ++ cs = al)
    (hc : ∀ w, St B L w → Calls P k al w (fun e w' => ∃ v M, e = .returned v ∧ R v M ∧ St B M w')) : StepW P N B ⟨dd, .call ⟨.value f, as.toArray, ts⟩, ty, ps, af, gd⟩ E L R := by
  intro a w e s K Q k'
  unfold Oper.wp
  rw [run_call hk e hf ha w]
  subst hal
  refine (hc w s).mono ?_
  rintro e' w' ⟨v, M, rfl, r, s'⟩
  exact k' v M w' r s'
theorem TO.callO {k : Nat} (hk : callB P k = true) {f : Operand} {as : List Operand} {ts : Array TypeId} {vs : List Value} {R : Value → List HP → Prop} (hf : opv E f = some (.func (.func k) #[] #[])) (ha : opvs E as = some vs) (hd : Nat.blt d N = true)
    (hc : ∀ w, St B L w → Calls P k vs.toArray w (fun e w' => ∃ v M, e = .returned v ∧ R v M ∧ St B M w')) (h : ∀ v M, R v M → TO P N B ops rest ((d, v) :: E) M Q) :
    TO P N B ops (⟨some d, .call ⟨.value f, as.toArray, ts⟩, ty, ps, af, none⟩ :: rest) E L Q :=
  TO.step rfl rfl hd (StepW.call hk hf ha (by simp) hc) h
theorem TO.callS {k : Nat} (hk : callB P k = true) {f : Operand} {as : List Operand} {ts : Array TypeId} {vs : List Value} {v : Value} (hf : opv E f = some (.func (.func k) #[] #[])) (ha : opvs E as = some vs) (hd : Nat.blt d N = true)
    (hc : ∀ w, St B L w → Calls P k vs.toArray w (fun e w' => e = .returned v ∧ St B L w')) (h : TO P N B ops rest ((d, v) :: E) L Q) :
    TO P N B ops (⟨some d, .call ⟨.value f, as.toArray, ts⟩, ty, ps, af, none⟩ :: rest) E L Q :=
  TO.step rfl rfl hd (StepW.call (R := fun u M => u = v ∧ M = L) hk hf ha (by simp) fun w s => (hc w s).mono fun e w' ⟨he, hs⟩ => ⟨v, L, he, ⟨rfl, rfl⟩, hs⟩) fun u M ⟨hu, hM⟩ => by subst hu; subst hM; exact h
theorem TO.callSw {j dj : Nat} {want b : Bool} (hj : (ops[j]?).bind (·.dst) = some dj) (hE : lk E dj = some (.bool b)) (hb : b = want) {k : Nat} (hk : callB P k = true) {f : Operand} {as : List Operand} {ts : Array TypeId} {vs : List Value} {v : Value}
    (hf : opv E f = some (.func (.func k) #[] #[])) (ha : opvs E as = some vs) (hd : Nat.blt d N = true)
    (hc : ∀ w, St B L w → Calls P k vs.toArray w (fun e w' => e = .returned v ∧ St B L w')) (h : TO P N B ops rest ((d, v) :: E) L Q) :
    TO P N B ops (⟨some d, .call ⟨.value f, as.toArray, ts⟩, ty, ps, af, some (j, want)⟩ :: rest) E L Q :=
  TO.want rfl hj hE hb rfl hd (StepW.call (R := fun u M => u = v ∧ M = L) hk hf ha (by simp) fun w s => (hc w s).mono fun e w' ⟨he, hs⟩ => ⟨v, L, he, ⟨rfl, rfl⟩, hs⟩) fun u M ⟨hu, hM⟩ => by subst hu; subst hM; exact h

/-! What gives one value and leaves the assertions as they are. -/
theorem StepQ.w {o : Oper} {v : Value} (h : StepQ P N B o E L v) : StepW P N B o E L (fun u M => u = v ∧ M = L) := by
  intro a w e s K Q k
  have hq := h a e w s
  unfold Oper.quietAt at hq
  unfold Oper.wp
  cases hr : (execOp a.eval o).run P w with
  | ok n w' =>
    rw [hr] at hq
    cases n with
    | value u => obtain ⟨rfl, rfl⟩ := hq; exact k u L w' ⟨rfl, rfl⟩ s
    | skip => obtain ⟨rfl, rfl⟩ := hq; exact k undef L w' ⟨rfl, rfl⟩ s
    | enter f args =>
      obtain ⟨rfl, hc⟩ := hq
      refine hc.mono ?_
      rintro e' w'' ⟨rfl, hs⟩
      exact k v L w'' ⟨rfl, rfl⟩ hs
    | _ => exact hq.elim
  | halt x w' => rw [hr] at hq; exact hq.elim
theorem TO.q {o : Oper} {v : Value} (hg : o.guard = none) (hdst : o.dst = some d) (hd : Nat.blt d N = true) (hs : StepQ P N B o E L v)
    (h : TO P N B ops rest ((d, v) :: E) L Q) : TO P N B ops (o :: rest) E L Q :=
  TO.step hg hdst hd hs.w (fun u M ⟨hu, hM⟩ => by subst hu; subst hM; exact h)
theorem TO.qw {o : Oper} {v : Value} {j dj : Nat} {want b : Bool}
    (hg : o.guard = some (j, want)) (hj : (ops[j]?).bind (·.dst) = some dj) (hE : lk E dj = some (.bool b)) (hb : b = want)
    (hdst : o.dst = some d) (hd : Nat.blt d N = true) (hs : StepQ P N B o E L v)
    (h : TO P N B ops rest ((d, v) :: E) L Q) : TO P N B ops (o :: rest) E L Q :=
  TO.want hg hj hE hb hdst hd hs.w (fun u M ⟨hu, hM⟩ => by subst hu; subst hM; exact h)

/-! Function values that came in. -/
def Ext (L L' : List HP) : Prop := ∃ M, L' = M ++ L
theorem Ext.rfl {L : List HP} : Ext L L := ⟨[], by simp⟩
theorem Ext.tl {L L' : List HP} {A : HP} (h : Ext L L') : Ext L (A :: L') := by obtain ⟨M, rfl⟩ := h; exact ⟨A :: M, by simp⟩
theorem Ext.trans {L L' L'' : List HP} (h : Ext L L') (k : Ext L' L'') : Ext L L'' := by obtain ⟨M, rfl⟩ := h; obtain ⟨K, rfl⟩ := k; exact ⟨K ++ M, by simp⟩
theorem Ent.ext {L L' : List HP} {A : HP} (e : Ent L A) (h : Ext L L') : Ent L' A := by
  obtain ⟨M, rfl⟩ := h
  induction M with
  | nil => exact e
  | cons C M ih => exact Ent.tl ih
/-- A function value that does what a model says, whatever lies beside. -/
def FOk (P : Program) (B : World) (L : List HP) (fv : Value) {α β : Type} (va : α → List Value) (vr : β → Value) (f : α → Option β) : Prop :=
  ∃ k fs cs, fv = .func (.func k) fs cs ∧ callB P k = true ∧ ∀ L', Ext L L' → ∀ x r, f x = some r → ∀ w, St B L' w → Calls P k (fs ++ (va x).toArray ++ cs) w (fun e w' => e = .returned (vr r) ∧ St B L' w')
theorem FOk.ext {L L' : List HP} {fv : Value} {α β : Type} {va : α → List Value} {vr : β → Value} {f : α → Option β} (h : FOk P B L fv va vr f) (x : Ext L L') : FOk P B L' fv va vr f := by
  obtain ⟨k, fs, cs, h1, h2, h3⟩ := h
  exact ⟨k, fs, cs, h1, h2, fun L'' y => h3 L'' (x.trans y)⟩
theorem StepQ.callF {L0 : List HP} {fv : Value} {α β : Type} {va : α → List Value} {vr : β → Value} {f : α → Option β} (hF : FOk P B L0 fv va vr f) (hx : Ext L0 L) {x : α} {r : β} {fo : Operand} {as : List Operand} {ts : Array TypeId}
    (hf : opv E fo = some fv) (ha : opvs E as = some (va x)) (hr : f x = some r) : StepQ P N B ⟨dd, .call ⟨.value fo, as.toArray, ts⟩, ty, ps, af, gd⟩ E L (vr r) := by
  obtain ⟨k, fs, cs, rfl, hk, hc⟩ := hF
  intro a e w s
  unfold Oper.quietAt
  rw [run_call hk e hf ha w]
  exact ⟨rfl, hc L hx x r hr w s⟩

/-! Parts of slices. -/
/-- 's[l:h]', h at most the length. -/
def slI {α : Type} (xs : List α) (l h : Int) : Option (List α) := if 0 ≤ l ∧ l ≤ h ∧ h ≤ xs.length then some ((xs.take h.toNat).drop l.toNat) else none
theorem slI_spec {α : Type} {xs ys : List α} {l h : Int} (e : slI xs l h = some ys) : 0 ≤ l ∧ l ≤ h ∧ h ≤ xs.length ∧ ys = (xs.take h.toNat).drop l.toNat := by
  unfold slI at e; split at e
  · rename_i c; exact ⟨c.1, c.2.1, c.2.2, (Option.some.inj e).symm⟩
  · cases e
/-- The header of a part. -/
def subv (v : Value) (l h : Int) (sz : Nat) : Value := match v with
  | .slice a _ cap => .slice (if cap = l.toNat then a else a.map (·.add (l.toNat * sz))) (h.toNat - l.toNat) (cap - l.toNat)
  | v => v
def bnd (E : Env) (o : Option Operand) (d : Int) : Option Int := match o with
  | none => some d
  | some x => match opv E x with | some (.int _ i) => some i | _ => none
theorem bnd_some {a : Act} (e : EnvOk N E a) {x : Operand} {i j : Int} (h : bnd E (some x) i = some j) : ∃ k, a.eval x = .int k j := by
  simp only [bnd] at h
  cases y : opv E x with
  | none => rw [y] at h; cases h
  | some u =>
    rw [y] at h
    cases u <;> simp at h
    subst h
    exact ⟨_, e.eval y⟩
theorem run_bound {v : Value} {k : IntKind} {i : Int} {y : Nat} (h0 : 0 ≤ i) (h1 : i ≤ y) (c : BoundsCode) (w : World) : (Instr.sliceBound (.int k i) y c).run P w = .ok i.toNat w := by
  simp [Instr.sliceBound, asIntOf, h0, h1]
theorem StepS.slc {t e sz : Nat} {x : Operand} {lo hi : Option Operand} {v : Value} {css : List (List Value)} {l h : Int} (hx : opv E x = some v) (en : Ent L (Rd sz v css)) (ht : sliceB P t e sz = true)
    (hl : bnd E lo 0 = some l) (hh : bnd E hi css.length = some h) (h0 : 0 ≤ l) (h1 : l ≤ h) (h2 : h ≤ css.length) : StepS P N B ⟨dd, .slice t x lo hi none, ty, ps, af, gd⟩ E L (subv v l h sz) := by
  intro a w en' s
  obtain ⟨g, sg, hlen, hr⟩ := s.get en
  obtain ⟨hu, hs⟩ := sliceB_spec ht
  have key : ∀ (a0 : Option Addr) (len cap : Nat), v = .slice a0 len cap → css.length = len → len ≤ cap → (execOp a.eval ⟨dd, .slice t x lo hi none, ty, ps, af, gd⟩).run P w = .ok (.value (subv v l h sz)) w := by
    intro a0 len cap hv hle hc
    subst hv
    have hb : (Instr.sliceBounds true len cap (lo.map a.eval) (hi.map a.eval) none).run P w = .ok (l.toNat, h.toNat, cap) w := by
      have bl : ∀ (k : IntKind) (c : BoundsCode), (Instr.sliceBound (.int k l) h.toNat c).run P w = .ok l.toNat w := fun k c => run_bound (v := .nilFunc) h0 (by omega) c w
      have bh : ∀ (k : IntKind) (c : BoundsCode), (Instr.sliceBound (.int k h) cap c).run P w = .ok h.toNat w := fun k c => run_bound (v := .nilFunc) (by omega) (by omega) c w
      cases hi with
      | none =>
        have hh' : h.toNat = len := by simp [bnd] at hh; omega
        rw [hh'] at bl ⊢
        cases lo with
        | none => have : l = 0 := by simp [bnd] at hl; omega
                  subst this; simp [Instr.sliceBounds]
        | some y => obtain ⟨k, hk⟩ := bnd_some en' hl; simp [Instr.sliceBounds, hk, bl]
      | some z =>
        obtain ⟨kh, hkh⟩ := bnd_some en' hh
        cases lo with
        | none => have : l = 0 := by simp [bnd] at hl; omega
                  subst this; simp [Instr.sliceBounds, hkh, bh]
        | some y => obtain ⟨k, hk⟩ := bnd_some en' hl; simp [Instr.sliceBounds, hk, hkh, bl, bh]
    simp [execOp, en'.eval hx, Instr.sliceAt, Instr.slice, run_underlying hu, hb, run_sizeB hs, subv]
  rcases hr with ⟨⟨ad, hv⟩, rfl⟩ | ⟨b, o, cap, arr, el, fz, hv, hc, _⟩
  · exact key ad 0 0 hv rfl (Nat.le_refl _)
  · exact key _ _ _ hv rfl hc
theorem Ent.sub {sz : Nat} {v : Value} {α : Type} {xs ys : List α} {f : α → List Value} {l h : Int} (en : Ent L (Rd sz v (xs.map f))) (e : slI xs l h = some ys) : Ent L (Rd sz (subv v l h sz) (ys.map f)) := by
  obtain ⟨h0, h1, h2, rfl⟩ := slI_spec e
  refine en.imp fun g ⟨hl, hr⟩ => ⟨g, Sub.refl g, fun c hc => hl c ?_, ?_⟩
  · rw [List.mem_map] at hc ⊢
    obtain ⟨x, hx, rfl⟩ := hc
    exact ⟨x, List.mem_of_mem_take (List.mem_of_mem_drop hx), rfl⟩
  · have hlen : (((xs.take h.toNat).drop l.toNat).map f).length = h.toNat - l.toNat := by simp; omega
    rcases hr with ⟨⟨ad, rfl⟩, hx⟩ | ⟨b, o, cap, arr, el, fz, rfl, hc, hm, hb, seg⟩
    · left
      have : xs = [] := by simpa using hx
      subst this
      simp at h2
      have : h = 0 := by omega
      subst this
      have : l = 0 := by omega
      subst this
      simp [subv]
    · right
      rw [hlen]
      have hle : h.toNat ≤ cap := by simp at hc; omega
      by_cases hcl : cap = l.toNat
      · refine ⟨b, o, cap - l.toNat, arr, el, fz, by simp [subv, hcl], by omega, by omega, hb, ?_⟩
        intro i c j u hi
        have : (((xs.take h.toNat).drop l.toNat).map f)[i]? = none := by rw [List.getElem?_eq_none]; rw [hlen]; omega
        rw [this] at hi; cases hi
      · refine ⟨b, o + l.toNat * sz, cap - l.toNat, arr, el, fz, by simp [subv, hcl, add_lit], by omega, by omega, hb, ?_⟩
        intro i c j u hi hj
        rw [List.getElem?_map, List.getElem?_drop, List.getElem?_take] at hi
        split at hi
        · have := seg (l.toNat + i) c j u (by rw [List.getElem?_map]; exact hi) hj
          rw [Nat.add_mul] at this
          rw [show o + l.toNat * sz + (i * sz + j) = o + (l.toNat * sz + i * sz + j) by omega]
          exact this
        · simp at hi
end
end Go.Bk
