import Derived.Test.YtadfgohglcglcaaDoorBk38
import Derived.RangeFuncLeaves
import Derived.RangeFuncRecord
import Derived.RangeFuncCalls
import Derived.RangeFuncSeq
import Derived.TacticsIn
/-
  Ranges over a function: what is walked as everywhere holds in a round, too. Nothing of any program stands here.
-/
namespace Go.Bk
open Go Go.RowKit
set_option linter.unusedVariables false
def nodef (o : Oper) : Bool := match o.op with
  | .defer _ => false
  | _ => true
/-- The fences that ask nothing. -/
def Easy (F : Fence) : Prop := F = Fence.wide ∨ ∃ l, F = Fence.wide.inRound l
section
variable {P : Program} {F : Fence} {n : Nat}
theorem Easy.calls (hF : Easy F) {f : FuncId} {args : Array Value} {w : World} {R : Ending → World → Prop} (h : Calls P f args w R) : CallsIn F n P f args w R := by
  rcases hF with rfl | ⟨l, rfl⟩
  · exact callsIn_wide.2 h
  · exact CallsIn.inRound l (callsIn_wide.2 h)
theorem Easy.rows (hF : Easy F) {row : String} {args : Array Value} {w : World} {R : Value → World → Prop} (h : Rows P row args w R) : RowsIn F n P row args w R := by
  rcases hF with rfl | ⟨l, rfl⟩ <;> exact fun c cs _ => let ⟨v, w', r, s⟩ := h c cs; ⟨v, w', r, stepsIn_wide.2 s⟩
theorem Easy.fn (hF : Easy F) (f : FuncId) : F.fn f := by rcases hF with rfl | ⟨l, rfl⟩ <;> trivial
theorem Easy.depth (hF : Easy F) : F.depth.isSome = true → 1 ≤ n := by rcases hF with rfl | ⟨l, rfl⟩ <;> exact fun h => by cases h
theorem Easy.sem (hF : Easy F) {o : Oper} (hd : nodef o = true) (ρ : Operand → Value) : Oper.semAt F.round ρ o = execOp ρ o := by
  rcases hF with rfl | ⟨l, rfl⟩
  · rfl
  · exact Oper.semAt_some l ρ o fun c e => by simp [nodef, e] at hd
theorem opIn (hF : Easy F) {o : Oper} {a : Act} {w : World} {K K' : Act → World → Prop} {Q Q' : Exit → Act → World → Prop} (hd : nodef o = true) (h : o.wp P a w K Q) (hK : ∀ a w, K a w → K' a w) (hQ : ∀ e a w, Q e a w → Q' e a w) : o.wpIn F n P a w K' Q' := by
  refine ⟨fun f _ => hF.fn f, ?_⟩
  rw [hF.sem hd]
  unfold Oper.wp at h
  generalize (execOp a.eval o).run P w = r at h
  have hL : LetsOut Q → LetsOut Q' := fun ⟨a, w, q⟩ => ⟨a, w, hQ _ _ _ q⟩
  cases r with
  | ok x w' =>
    cases x with
    | value v => exact hK _ _ h
    | skip => exact hK _ _ h
    | defer d => exact hK _ _ h
    | enter f args =>
      refine ⟨hF.depth, hF.calls (Calls.mono h ?_)⟩
      rintro (v | c | _) w' q
      · exact hK _ _ q
      · exact hQ _ _ _ q
      · exact hL q
    | row row args => exact ⟨hF.depth, RowsIn.mono (hF.rows h) fun v w' q => hK _ _ q⟩
    | _ => exact h.elim
  | halt k w' =>
    cases k with
    | panic v => exact hQ _ _ _ h
    | _ => exact h.elim
/-- A list of operations that is walked as everywhere. -/
theorem listIn (hF : Easy F) {ops : Array Oper} {Q Q' : Exit → Act → World → Prop} {rest : List Oper} (hL : ¬ LetsOut Q) (hQ : ∀ e a w, e ≠ .normal → Q e a w → Q' e a w) (hn : ∀ a w, Q .normal a w → wpListIn F n P ops Q' rest a w) :
    ∀ (l : List Oper), l.all nodef = true → ∀ a w, wpList P ops Q l a w → wpListIn F n P ops Q' (l ++ rest) a w := by
  intro l
  induction l with
  | nil => intro _ a w h; exact hn a w h
  | cons o l ih =>
    intro hd a w h
    simp only [List.all_cons, Bool.and_eq_true] at hd
    show wpListIn F n P ops Q' (o :: (l ++ rest)) a w
    unfold wpListIn
    unfold wpList at h
    split
    · rename_i c
      rw [if_pos c] at h
      rcases h with h | ⟨_, h⟩
      · refine opIn hF hd.1 (Q := fun e a w => e ≠ .normal ∧ Q e a w) (K := wpList P ops Q l) ?_ (fun a w h => ih hd.2 a w h) (fun e a w h => hQ e a w h.1 h.2)
        unfold Oper.wp at h ⊢
        generalize (execOp a.eval o).run P w = r at h
        cases r with
        | ok x w' =>
          cases x with
          | enter f args =>
            refine Calls.mono h ?_
            rintro (v | c | _) w' q
            · exact q
            · exact ⟨by simp, q⟩
            · exact (hL q).elim
          | _ => exact h
        | halt k w' =>
          cases k with
          | panic v => exact ⟨by simp, h⟩
          | _ => exact h.elim
      · exact (hL h).elim
    · rename_i c
      rw [if_neg c] at h
      exact ⟨fun f _ => hF.fn f, ih hd.2 _ _ h⟩
variable {N : Nat} {B : World} {E : Env} {L : List HP}
/-- .. out of its walk. -/
theorem TO.inL (hF : Easy F) {ops : Array Oper} {l rest : List Oper} {Q' : Exit → Act → World → Prop} (hd : l.all nodef = true) (h : TO P N B ops l E L (fun a w => wpListIn F n P ops Q' rest a w)) {a : Act} {w : World} (e : EnvOk N E a) (s : St B L w) : wpListIn F n P ops Q' (l ++ rest) a w :=
  listIn hF (fun ⟨_, _, h⟩ => by cases h.1) (fun e a w hn h => absurd h.1 hn) (fun a w h => h.2) l hd a w (h a w e s)
theorem TO.inR (hF : Easy F) {id : Nat} {l : List Oper} {Q' : Exit → Act → World → Prop} (hd : l.all nodef = true) (h : TO P N B l.toArray l E L (fun a w => Q' .normal a w)) {a : Act} {w : World} (e : EnvOk N E a) (s : St B L w) : (Code.region id l.toArray false).wpIn F n P Q' a w := by
  refine wpIn_region_lit ?_
  have := TO.inL (n := n) (rest := []) hF hd (Q' := Q') (h := h) e s
  rwa [List.append_nil] at this
/-- yield is called. -/
theorem yieldIn (hF : Easy F) {ops : Array Oper} {rest : List Oper} {Q : Exit → Act → World → Prop} {f x : Operand} {ts : Array TypeId} {d : Option Tmp} {ty : TypeId} {ps : String} {af : Array Edge} {l : Nat} {v : Value} {a : Act} {w : World}
    (hf : a.eval f = .func (.yield l) #[] #[]) (hx : a.eval x = v) (h : YieldAt F (n - 1) P l #[v] w (fun e w' => ∃ b, e = .returned b ∧ wpListIn F n P ops Q rest (a.put d b) w')) : wpListIn F n P ops Q (⟨d, .call ⟨.value f, #[x], ts⟩, ty, ps, af, none⟩ :: rest) a w := by
  obtain ⟨fn, tmps, assign, body, hy, hR⟩ := h
  unfold wpListIn
  rw [if_pos (by rfl)]
  refine ⟨fun f _ => hF.fn f, ?_⟩
  rw [hF.sem rfl]
  have hr : (execOp a.eval ⟨d, .call ⟨.value f, #[x], ts⟩, ty, ps, af, none⟩).run P w = .ok (.round l fn tmps assign body) w := by
    simp [execOp, resolve, invoke, Deferred.ofValue, hf, hx, hy]
  rw [hr]
  refine ⟨hF.depth, hR.mono ?_⟩
  rintro e w' ⟨b, rfl, h⟩
  exact h
theorem easyW : Easy Fence.wide := .inl rfl
theorem easyR (l : Nat) : Easy (Fence.wide.inRound l) := .inr ⟨l, rfl⟩
theorem TO.inN (hF : Easy F) {id : Nat} {l : List Oper} {Q' : Exit → Act → World → Prop} (k : Nat) (hd : (l.take k).all nodef = true) (h : TO P N B l.toArray (l.take k) E L (fun a w => wpListIn F n P l.toArray Q' (l.drop k) a w)) {a : Act} {w : World} (e : EnvOk N E a) (s : St B L w) : (Code.region id l.toArray false).wpIn F n P Q' a w := by
  refine wpIn_region_lit ?_
  have := TO.inL (n := n) (rest := l.drop k) hF hd (Q' := Q') (h := h) e s
  rwa [List.take_append_drop] at this
theorem TO.inD (hF : Easy F) {ops : Array Oper} {l : List Oper} {Q' : Exit → Act → World → Prop} (hd : l.all nodef = true) (h : TO P N B ops l E L (fun a w => Q' .normal a w)) {a : Act} {w : World} (e : EnvOk N E a) (s : St B L w) : wpListIn F n P ops Q' l a w := by
  have := TO.inL (n := n) (rest := []) hF hd (Q' := Q') (h := h) e s
  rwa [List.append_nil] at this
theorem calls_ofI {f : FuncId} {fn : Func} {c : Code} {args : List Value} {w : World} {R : Ending → World → Prop}
    (hf : P.funcs[f]? = some fn) (hb : fn.body = some c) (hn : fn.ntmps = N) (hsz : Nat.ble args.length N = true)
    (h : ∀ a, EnvOk N (argsEnv args 0) a → c.wpIn Fence.wide 0 P (bodyPost P fn R) a w) : Calls P f args.toArray w R := by
  have hsz' : args.length ≤ N := by simpa [Nat.ble_eq] using hsz
  refine (callsIn_wide (n := 0)).1 (callsIn_of_wp hf hb trivial (h _ ⟨?_, rfl, ?_⟩))
  · simp [hn]; omega
  · intro i v hv
    obtain ⟨_, hv⟩ := lk_argsEnv args 0 i v hv
    have hi : i < args.length := by
      rcases Nat.lt_or_ge i args.length with x | x
      · exact x
      · rw [List.getElem?_eq_none (by simpa using x)] at hv; cases hv
    simp only [Nat.sub_zero] at hv
    simp [Array.getElem?_append, hi] at hv ⊢
    exact hv
/-! What the loop itself lays. -/
/-- A block. -/
def Ob (l : Nat) (o : Obj) : HP := fun h => h l = some o
theorem St.ob {w : World} {l k : Nat} {o : Obj} (s : St B L w) (hk : L[k]? = some (Ob l o)) : w.heap[l]? = some o := by
  obtain ⟨h, sh, hb⟩ := s.get (Ent.at k hk)
  exact sh l _ hb
theorem St.putOb {w : World} {l k : Nat} {o : Obj} (s : St B L w) (hk : L[k]? = some (Ob l o)) (o' : Obj) : St B (L.set k (Ob l o')) (w.putObj l o') := by
  have hl := s.ob hk
  have hlt := (Array.getElem?_eq_some_iff.1 hl).1
  have e : hw (w.putObj l o') = put (hw w) l o' := by
    funext c
    show (w.heap.setIfInBounds l o')[c]? = _
    rw [Array.getElem?_setIfInBounds]
    by_cases h : l = c
    · subst h; simp [put, hlt]
    · rw [if_neg h]; unfold put; rw [if_neg (fun q => h q.symm)]; rfl
  refine ⟨s.os, s.tape, s.output, ?_⟩
  rw [e]
  exact (Sat.upd k hk s.sat fun h1 s1 ho => ⟨by rw [show h1 l = some o from ho]; simp, by simp [Ob, put]⟩).1
theorem St.grows {w w' : World} (s : St B L w) (h : Below w.heap.size w w') (hd : DrawnOk B w') : St B L w' := by
  refine ⟨⟨h.os.trans s.os.1, hd⟩, h.tape.trans s.tape, h.output.trans s.output, Sat.mono ?_ s.sat⟩
  intro b o hb
  have hlt := (Array.getElem?_eq_some_iff.1 (show w.heap[b]? = some o from hb)).1
  exact (h.block b hlt).trans hb
def rcd (fn : FuncId) (tmps : Array Value) (ps : Array Tmp) (assign body : Code) (D : Nat) (st : LoopState) (pe : Option Code) : Loop := { state := st, pending := pe, fn, tmps, params := ps, assign, body, defers := D }
/-- One round, out of its walk. -/
theorem yieldS {n : Nat} {w : World} {l D : Nat} {fn : FuncId} {assign body : Code} {x : Value} {p : Tmp} {a : Act} {E1 : Env} (s : St B (Ob l (.loop (rcd fn a.tmps #[p] assign body D .ready none)) :: L) w) (e : EnvOk N E a) (hd : Nat.blt p N = true) {R : Ending → World → Prop}
    (hassign : ∀ a w, EnvOk N ((p, x) :: E) a → ∀ L, St B L w → assign.wpIn (Fence.wide.inRound l) n P (Exit.then (fun a1 w1 => EnvOk N E1 a1 ∧ St B L w1) (fun _ _ _ => False)) a w)
    (hbody : ∀ a' w, EnvOk N E1 a' → St B (Ob l (.loop (rcd fn a.tmps #[p] assign body D .busy none)) :: L) w → body.wpIn (Fence.wide.inRound l) n P (fun e _ w => match e with
      | .normal => ∃ M, St B (Ob l (.loop (rcd fn a.tmps #[p] assign body D .busy none)) :: M) w ∧ ∀ w', St B (Ob l (.loop (rcd fn a.tmps #[p] assign body D .ready none)) :: M) w' → R (.returned (.bool true)) w'
      | .ret => ∃ M, St B (Ob l (.loop (rcd fn a.tmps #[p] assign body D .busy none)) :: M) w ∧ ∀ w', St B (Ob l (.loop (rcd fn a.tmps #[p] assign body D .done (some .ret))) :: M) w' → R (.returned (.bool false)) w'
      | _ => False) a' w) : YieldAt Fence.wide n P l #[x] w R := by
  have hl := s.ob (k := 0) rfl
  have hy := run_yield (P := P) (args := #[x]) hl (by simp [rcd])
  refine ⟨_, _, _, _, hy, roundIn_of_wpIn trivial ?_⟩
  have ht : ((rcd fn a.tmps #[p] assign body D .ready none).params.zip #[x]).foldl (fun tmps (t, a) => tmps.setIfInBounds t a) (rcd fn a.tmps #[p] assign body D .ready none).tmps = (a.put (some p) x).tmps := by simp [rcd, Act.put]
  rw [ht]
  have e1 : EnvOk N ((p, x) :: E) { tmps := (a.put (some p) x).tmps, defers := [] } := ⟨(e.put hd x).size, rfl, (e.put hd x).env⟩
  refine wpIn_mono (hassign _ w e1 _ s) ?_
  intro ex a1 w1 q
  cases ex with
  | normal =>
    obtain ⟨e2, s2⟩ := q
    refine ⟨_, run_beginRound (s2.ob (k := 0) rfl) rfl, wpIn_mono (hbody a1 _ e2 (s2.putOb (k := 0) rfl _)) ?_⟩
    intro ex a3 w3 q
    cases ex with
    | normal =>
      obtain ⟨M, s3, hR⟩ := q
      exact ⟨_, _, run_endRound none (s3.ob (k := 0) rfl), hR _ (s3.putOb (k := 0) rfl _)⟩
    | ret =>
      obtain ⟨M, s3, hR⟩ := q
      exact ⟨_, _, run_endRound (some .ret) (s3.ob (k := 0) rfl), hR _ (s3.putOb (k := 0) rfl _)⟩
    | _ => exact q.elim
  | _ => exact q.elim
/-- The statement. -/
theorem rangeF {gf : Nat} {lb : Array Value} {g : Operand} {ps : Array Tmp} {assign body : Code} {a : Act} {w : World} {Q : Exit → Act → World → Prop} (hd : a.defers = []) (s : St B L w) (hg : a.eval g = .func (.func gf) #[] lb) (eg : ∀ args w, (callFunc gf args).run P w = .ok (.enter gf args) w)
    (h : ∀ (fn l D : Nat) (w2 : World), St B (Ob l (.loop (rcd fn a.tmps ps assign body D .ready none)) :: Ob D (.deferred (some [])) :: L) w2 →
      Calls P gf (#[.func (.yield l) #[] #[]] ++ lb) w2 (fun e w3 => (∃ v, e = .returned v) ∧ ∃ (b : Bool) (M : List HP), St B (Ob l (.loop (rcd fn a.tmps ps assign body D (cond b .ready .done) (cond b none (some .ret)))) :: Ob D (.deferred (some [])) :: M) w3 ∧
        ∀ w4, St B (Ob D (.deferred (some [])) :: M) w4 → Q (cond b .normal .ret) { a with defers := [{ target := .collected D, args := #[] }] } w4)) : (Code.rangeFunc g ps assign body).wp P Q a w := by
  refine (wpIn_wide (n := 0)).1 (wpIn_rangeFunc fun fn _ => ?_)
  have s1 := (s.new (A := Ob w.heap.size (.deferred (some []))) (o := .deferred (some [])) (by simp [Ob, put])).new (A := Ob (w.heap.size + 1) (.loop (rcd fn a.tmps ps assign body w.heap.size .ready none))) (o := .loop (rcd fn a.tmps ps assign body w.heap.size .ready none)) (by simp [Ob, put])
  refine ⟨w.heap.size + 1, [{ target := .collected w.heap.size, args := #[] }], (w.alloc (.deferred (some []))).alloc (.loop (rcd fn a.tmps ps assign body w.heap.size .ready none)), { target := .fn (.func gf) lb, args := #[.func (.yield (w.heap.size + 1)) #[] #[]] },
    (w.alloc (.deferred (some []))).alloc (.loop (rcd fn a.tmps ps assign body w.heap.size .ready none)), gf, #[.func (.yield (w.heap.size + 1)) #[] #[]] ++ lb, (w.alloc (.deferred (some []))).alloc (.loop (rcd fn a.tmps ps assign body w.heap.size .ready none)), run_enterLoop_outer _ _ _ _ _, ?_, fun _ _ => trivial, ?_, fun h => (by cases h), ?_⟩
  · simp only [resolve, hg]
    simp [go_sem]
  · simp [invoke, go_sem, eg]
  · refine callsIn_wide.2 ((h fn _ _ _ s1).mono ?_)
    rintro e w3 ⟨⟨v, rfl⟩, b, M, s3, hQ⟩
    refine ⟨_, _, run_endLoop (s3.ob (k := 0) rfl) (by cases b <;> simp [rcd]), ?_⟩
    have s4 := (s3.putOb (k := 0) rfl (.loop { rcd fn a.tmps ps assign body w.heap.size (cond b .ready .done) (cond b none (some .ret)) with state := .exhausted })).mono fun _ s => Sat.dropN 1 s
    have q := hQ _ s4
    rw [hd, List.append_nil]
    cases b with
    | true => exact q
    | false => exact wpIn_ret q
/-- On the way out. -/
theorem leaveM {fn : Func} {tmps : Array Value} {R : Ending → World → Prop} {D : Nat} {w : World} (s : St B (Ob D (.deferred (some [])) :: L) w) (h : ∀ w', St B L w' → ∃ v, (results fn tmps).run P w' = .ok v w' ∧ R (.returned v) w') :
    LeavesInM F n P fn tmps R [{ target := .collected D, args := #[] }] .returning w := by
  have q : St B (Ob D (.deferred none) :: L) (w.putObj D (.deferred none)) := s.putOb (k := 0) rfl _
  exact ⟨by simp, .inl ⟨D, _, rfl, run_takeDeferred (s.ob (k := 0) rfl), h _ (q.mono fun h (s : Sat (Ob D (.deferred none) :: L) h) => (Sat.dropN 1 s : Sat ((Ob D (.deferred none) :: L).drop 1) h))⟩⟩
theorem resCell {fn : Func} {tmps : Array Value} {w : World} {t ty b bt : Nat} {v : Value} (s : St B L w) (hrs : fn.results = #[.cell t ty]) (ht : tmps.getD t undef = .pointer (some ⟨b, 0, none⟩)) (en : Ent L (Bx b bt [v])) (hsc : scalB P ty = true) : (results fn tmps).run P w = .ok v w := by
  obtain ⟨h, sh, hb⟩ := s.get en
  have := cell_of (sh b _ hb) 0
  rw [show ([v].toArray)[0]? = some v from rfl] at this
  have ht2 : tmps[t]?.getD undef = .pointer (some ⟨b, 0, none⟩) := by simpa using ht
  simp [results, hrs, ht2, asAddr, loadVar, run_scal hsc, this]
theorem calls_ofM {f : FuncId} {fn : Func} {c : Code} {args : List Value} {w : World} {R : Ending → World → Prop}
    (hf : P.funcs[f]? = some fn) (hb : fn.body = some c) (hn : fn.ntmps = N) (hsz : Nat.ble args.length N = true)
    (h : TC P N B c (argsEnv args 0) L { nrm := fun a w => LeavesInM Fence.wide 0 P fn a.tmps R a.defers .returning w, ret := fun a w => LeavesInM Fence.wide 0 P fn a.tmps R a.defers .returning w, ex := [] }) (s : St B L w) : Calls P f args.toArray w R := by
  have hsz' : args.length ≤ N := by simpa [Nat.ble_eq] using hsz
  refine (callsIn_wide (n := 0)).1 (callsIn_of_wp_marks hf hb trivial (wpIn_wide.2 ?_))
  refine wp_mono (h _ w ⟨?_, rfl, ?_⟩ s) ?_
  · simp [hn]; omega
  · intro i v hv
    obtain ⟨_, hv⟩ := lk_argsEnv args 0 i v hv
    have hi : i < args.length := by
      rcases Nat.lt_or_ge i args.length with x | x
      · exact x
      · rw [List.getElem?_eq_none (by simpa using x)] at hv; cases hv
    simp only [Nat.sub_zero] at hv
    simp [Array.getElem?_append, hi] at hv ⊢
    exact hv
  · intro e a w q
    cases e with
    | normal => exact q
    | ret => exact q
    | exit id => obtain ⟨M, hM, _⟩ := q; cases hM
    | _ => exact q.elim
end
end Go.Bk
