/-
  More kinds of keys; a condition that is known; what follows a loop over a map. Nothing of any program stands here.
-/
import Derived.Test.YtgofkfhkolkfmaaBk23
namespace Go.Bk
open Go
set_option linter.unusedVariables false
set_option linter.unusedSimpArgs false

theorem findNow_u32 {ν : Type} (vf : ν → Value) (k : BitVec 32) : ∀ (es : List MapEntry) (m : List (BitVec 32 × ν)) (i : Nat), es.map (fun e => (e.key, e.val)) = m.map (fun x => (U x.1, vf x.2)) → Instr.findNow (.int .u32) (U k) es i = some ((fndG k m i).map fun x => (x.1, vf x.2))
  | [], m, i, h => by
    have : m = [] := by simpa using h.symm
    subst this
    simp [Instr.findNow, fndG]
  | e :: es, [], i, h => by simp at h
  | e :: es, x :: m, i, h => by
    simp only [List.map_cons, List.cons.injEq, Prod.mk.injEq] at h
    obtain ⟨⟨h1, h2⟩, h3⟩ := h
    have ih := findNow_u32 vf k es m (i + 1) h3
    rw [Instr.findNow, h1, fndG]
    simp only [Instr.sameNow, if_true]
    by_cases e : x.1 = k
    · subst e; simp [h2]
    · have : ((k.toNat : Int) == (x.1.toNat : Int)) = false := by
        rw [beq_eq_false_iff_ne]
        intro q
        exact e (BitVec.eq_of_toNat_eq (by omega)).symm
      rw [this]
      simp [e, ih]
theorem run_checkKey2 {P : Program} {ke : TypeId} {d : TypeDesc} (h : P.underlying ke = some d) (hd : (match d with | .int _ | .string => true | _ => false) = true) (b : Bool) (n : Nat) (k : Value) (w : World) : (Instr.checkKey b (n + 1) ke k).run P w = .ok () w := by
  rw [Instr.checkKey]
  simp only [Sem.run_bind, run_underlying h, Result.andThen_ok]
  cases d <;> simp at hd <;> simp
theorem KeyOk.u32 {P : Program} {ke : TypeId} (h : P.underlying ke = some (.int .u32)) : KeyOk P ke (fun k : BitVec 32 => U k) where
  chk := fun b k w => run_checkKey2 (P := P) h rfl b 9999 (U k) w
  find := fun vf es m k w hm => by simp [Instr.findKey, run_underlying h, findNow_u32 vf k es m 0 hm]
  same := fun k => by simp [Instr.sameBits]
theorem bytes_eq (a b : ByteArray) : (a == b) = decide (a = b) := by
  cases a with | mk x => cases b with | mk y =>
  rw [show ((ByteArray.mk x == ByteArray.mk y) = (x == y)) from rfl]
  by_cases h : x = y <;> simp [h]
theorem findNow_str {ν : Type} (vf : ν → Value) (k : ByteArray) : ∀ (es : List MapEntry) (m : List (ByteArray × ν)) (i : Nat), es.map (fun e => (e.key, e.val)) = m.map (fun x => (.string x.1, vf x.2)) → Instr.findNow .string (.string k) es i = some ((fndG k m i).map fun x => (x.1, vf x.2))
  | [], m, i, h => by
    have : m = [] := by simpa using h.symm
    subst this
    simp [Instr.findNow, fndG]
  | e :: es, [], i, h => by simp at h
  | e :: es, x :: m, i, h => by
    simp only [List.map_cons, List.cons.injEq, Prod.mk.injEq] at h
    obtain ⟨⟨h1, h2⟩, h3⟩ := h
    have ih := findNow_str vf k es m (i + 1) h3
    rw [Instr.findNow, h1, fndG]
    simp only [Instr.sameNow]
    by_cases e : x.1 = k
    · subst e; simp [h2, bytes_eq]
    · have : (k == x.1) = false := by
        rw [bytes_eq, decide_eq_false_iff_not]
        exact fun q => e q.symm
      rw [this]
      simp [e, ih]
theorem KeyOk.str {P : Program} {ke : TypeId} (h : P.underlying ke = some .string) : KeyOk P ke (fun k : ByteArray => .string k) where
  chk := fun b k w => run_checkKey2 (P := P) h rfl b 9999 (.string k) w
  find := fun vf es m k w hm => by simp [Instr.findKey, run_underlying h, findNow_str vf k es m 0 hm]
  same := fun k => by simp [Instr.sameBits, bytes_eq]

/-- The length of a slice, and no more. -/
def Hd (v : Value) (n : Nat) : HP := fun _ => ∃ a cap, v = .slice a n cap
theorem Hd.nil {L : List HP} : Ent L (Hd (.slice none 0 0) 0) := fun h s => ⟨h, Sub.refl h, none, 0, rfl⟩
theorem Rd.hd {L : List HP} {sz : Nat} {v : Value} {css : List (List Value)} (en : Ent L (Rd sz v css)) : Ent L (Hd v css.length) := en.imp fun h ⟨_, r⟩ => ⟨h, Sub.refl h, by
  rcases r with ⟨⟨a, rfl⟩, rfl⟩ | ⟨b, o, cap, arr, e, fz, rfl, _⟩
  · exact ⟨a, 0, rfl⟩
  · exact ⟨_, cap, rfl⟩⟩
theorem Rd.hdm {L : List HP} {sz : Nat} {v : Value} {α : Type} {f : α → List Value} {l : List α} (en : Ent L (Rd sz v (l.map f))) : Ent L (Hd v l.length) := by
  have := Rd.hd en; rwa [List.length_map] at this
theorem RR.hd {L : List HP} {α : Type} {sz : Nat} {f : α → List Value} {v : Value} {hs : List Value} {xss : List (List α)} (en : Ent L (RR sz f v hs xss)) : Ent L (Hd v xss.length) := en.imp fun h ⟨hl, ⟨h1, s1, r⟩, _⟩ => ⟨h, Sub.refl h, by
  rw [← hl]
  rcases r.2 with ⟨⟨a, rfl⟩, e⟩ | ⟨b, o, cap, arr, e, fz, rfl, _⟩
  · have : hs = [] := by simpa using e
    rw [this]
    exact ⟨a, 0, rfl⟩
  · exact ⟨some ⟨b, o, none⟩, cap, by simp⟩⟩
section
variable {P : Program} {N : Nat} {B : World} {E : Env} {L : List HP}
variable {dd : Option Tmp} {ty : TypeId} {ps : String} {af : Array Edge} {gd : Option (Nat × Bool)}
theorem StepS.lenHd {t e sz n : Nat} {x : Operand} {v : Value} (hx : opv E x = some v) (en : Ent L (Hd v n)) (ht : sliceB P t e sz = true) {ts : Array TypeId} (hts : ts = #[t]) :
    StepS P N B ⟨dd, .call ⟨.builtin .len, #[x], ts⟩, ty, ps, af, gd⟩ E L (.int .i64 (n : Int)) := by
  subst hts
  intro a w en' s
  obtain ⟨h, sh, ad, cap, rfl⟩ := s.get en
  have hu := (sliceB_spec ht).1
  simp [execOp, resolve, invoke, builtin, en'.eval hx, Builtin.len_, run_underlying hu, goInt]
end

section
variable {P : Program} {N : Nat} {B : World} {E : Env} {L : List HP} {ops : Array Oper} {rest : List Oper} {Q : Act → World → Prop}
variable {ty : TypeId} {ps : String} {af : Array Edge}
variable {κ ν : Type} [DecidableEq κ] {kf : κ → Value} {vf : ν → Value} {m : κ → Option ν}
/-- An entry of a map that is written out. -/
theorem TO.insF {t ke e r : Nat} {x y z : Operand} {k : κ} {v : ν} (kk : Nat) (ht : mapGB P t ke e = true) (hK : KeyOk P ke kf) (hx : opv E x = some (.map (some r))) (hk : L[kk]? = some (MF kf vf r m)) (hy : opv E y = some (kf k)) (hz : opv E z = some (vf v))
    (h : TO P N B ops rest E (L.set kk (MF kf vf r (mupd m k v))) Q) : TO P N B ops (⟨none, .insert t x y z, ty, ps, af, none⟩ :: rest) E L Q :=
  TO.msetF (ty := ty) (ps := ps) (af := af) kk ht hK hx hk hy hz h
end

section
variable {P : Program} {N : Nat} {B : World} {E : Env} {L : List HP} {X : Post} {x y : Code}
theorem TC.condT {o : Operand} (ho : opv E o = some (.bool true)) (h : TC P N B x E L X) : TC P N B (.cond o x y) E L X := TC.cond ho (fun _ => h) (fun e => by cases e)
theorem TC.condF {o : Operand} (ho : opv E o = some (.bool false)) (h : TC P N B y E L X) : TC P N B (.cond o x y) E L X := TC.cond ho (fun e => by cases e) (fun _ => h)
end
theorem TA.all4 {P : Program} {N : Nat} {B : World} {ops : Array Oper} {L0 : List HP} {n fuel : Nat} {listed : Array Bool} {E : Env} {L : List HP} {Q : Act → World → Prop} {i j k m : Nat} (hr : Region.ready .any ops listed = [i, j, k, m]) (h1 : TB P N B ops L0 n fuel listed E L Q i) (h2 : TB P N B ops L0 n fuel listed E L Q j) (h3 : TB P N B ops L0 n fuel listed E L Q k) (h4 : TB P N B ops L0 n fuel listed E L Q m) : TA P N B ops L0 n (fuel + 1) listed E L Q :=
  TA.all hr (by simp) fun x hm => by
    simp only [List.mem_cons, List.not_mem_nil, or_false] at hm
    rcases hm with rfl | rfl | rfl | rfl
    · exact h1
    · exact h2
    · exact h3
    · exact h4
/-- What follows a loop over a map. -/
@[reducible] def Ctl.onN {σ β ρ ω : Type} (o : Ctl σ β ρ) (f : σ → Option ω) (g : ρ → Option ω) : Option ω := match o with
  | .nxt s => f s
  | .ret r => g r
  | .brk _ => none
end Go.Bk
