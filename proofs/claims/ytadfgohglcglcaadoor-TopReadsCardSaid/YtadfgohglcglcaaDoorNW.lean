/-
  tree.name returns what its model says: the walk, by hand: a range over strings.SplitSeq, the iterator and the loop together.
-/
import Derived.Test.YtadfgohglcglcaaDoorNM
import Derived.Test.YtadfgohglcglcaaDoorSW
import Derived.Test.YtadfgohglcglcaaDoorBk39
import Derived.Test.YtadfgohglcglcaaDoorBk6
import Derived.Shelf.Strings.Search3
namespace Go.Proofs.YtadfgohglcglcaaDoor
open Go Go.Bk Go.Shelf Go.RowKit
set_option linter.unusedVariables false
def ren143 : Ren :=
  {
  f := fun x => match x with
    | 143 => 59
    | 219 => 73
    | 217 => 80
    | 225 => 81
    | 224 => 82
    | 267 => 83
    | 266 => 85
    | 314 => 86
    | n => n,
  t := fun x => match x with
    | 9 => 9
    | 3 => 3
    | 4 => 4
    | 5 => 5
    | 46 => 129
    | 146 => 161
    | 51 => 144
    | n => n,
  g := fun x => match x with
    | 1 => 0
    | n => n }
theorem lays143 : Lays.n143 Tryd.prog ren143 := by
  constructor <;> first | kernel_rfl | (intro w; kernel_rfl)
def ren17 : Ren :=
  {
  f := fun x => match x with
    | 17 => 46
    | 15 => 52
    | 20 => 60
    | n => n,
  t := fun x => match x with
    | 9 => 9
    | 23 => 121
    | 4 => 4
    | 3 => 3
    | 0 => 0
    | 21 => 21
    | n => n,
  g := fun x => x }
theorem lays17 : LaysGw.n17 Tryd.prog ren17 := by
  constructor <;> first | kernel_rfl | (intro w; kernel_rfl)
theorem nU9 : Tryd.prog.underlying 9 = some .string := by kernel_rfl
theorem nS9 : scalB Tryd.prog 9 = true := by kernel_rfl
theorem nS3 : scalB Tryd.prog 3 = true := by kernel_rfl
theorem nS4 : scalB Tryd.prog 4 = true := by kernel_rfl
theorem nZ9 : sizeB Tryd.prog 9 1 = true := by kernel_rfl
theorem nZ4 : sizeB Tryd.prog 4 1 = true := by kernel_rfl
theorem nI4 : (Tryd.prog.info? 4).bind (·.zero) = some (.bool false) := by kernel_rfl
theorem nB44 : callB Tryd.prog 44 = true := by kernel_rfl
theorem nB45 : callB Tryd.prog 45 = true := by kernel_rfl
theorem nB46 : callB Tryd.prog 46 = true := by kernel_rfl
theorem nB51 : callB Tryd.prog 51 = true := by kernel_rfl
theorem nB59 : callB Tryd.prog 59 = true := by kernel_rfl
abbrev strk : ByteArray := ByteArray.mk #[47]

/-! The library's functions, by the kit's contracts. -/
theorem C59 {B : World} {L : List HP} {s : ByteArray} {w : World} (st : St B L w) : Calls Tryd.prog 59 #[.string s, .string strk] w (fun e w' => e = .returned (I (cutAt s)) ∧ St B L w') := by
  refine (Any.strings_Index_one lays143 s 47 w).mono ?_
  rintro e w' ⟨rfl, rfl⟩
  exact ⟨rfl, st⟩
theorem pred47 (w : World) : Go.Proofs.PredGrows Tryd.prog 47 #[] (fun x => decide ((x : Int) < 97) || decide ((x : Int) > 122)) w := fun W x hx hb => by
  have h := C47 (a0 := (x : Int)) (r0 := decide ((x : Int) < 97) || decide ((x : Int) > 122)) rfl (St.start W)
  refine Calls.mono h ?_
  rintro e w' ⟨rfl, s⟩
  exact ⟨rfl, s.below⟩
theorem enters47 : ∀ args w, (callFunc 47 args).run Tryd.prog w = .ok (.enter 47 args) w := enters_of Tryd.func47 (by kernel_rfl) rfl
theorem C46 {B : World} {L : List HP} {s : ByteArray} {w : World} (st : St B L w) : Calls Tryd.prog 46 #[.string s, .func (.func 47) #[] #[]] w (fun e w' => e = .returned (.bool (decide (0 ≤ Lib.idxFunc (fun x => decide ((x : Int) < 97) || decide ((x : Int) > 122)) true s))) ∧ St B L w') := by
  refine (Go.Proofs.Any.strings_ContainsFunc_grows lays17 47 #[] enters47 _ s w (pred47 w)).mono ?_
  rintro e w' ⟨rfl, hb⟩
  exact ⟨rfl, st.grows hb trivial⟩
/-- strings.SplitSeq lays three boxes. -/
theorem C51 {B : World} {L : List HP} {s : ByteArray} {w : World} (st : St B L w) : Calls Tryd.prog 51 #[.string s, .string strk, I 0] w (fun e w' => ∃ v M, e = .returned v ∧ (∃ (bs bp bv : Nat), v = .func (.func 57) #[] #[.pointer (some ⟨bp, 0, none⟩), .pointer (some ⟨bs, 0, none⟩), .pointer (some ⟨bv, 0, none⟩)] ∧ M = (Bx bv 3 [I 0] :: Bx bp 9 [.string strk] :: Bx bs 9 [.string s] :: L)) ∧ St B M w') := by
  refine calls_of (N := 8) (L := L) (args := [.string s, .string strk, I 0]) Tryd.func51 rfl rfl rfl ?_ st
  refine TC.k ?_
  refine TC.region ?_
  refine TO.box (cs := [.string s]) rfl rfl rfl fun bs => ?_
  refine TO.box (cs := [.string strk]) rfl rfl rfl fun bp => ?_
  refine TO.box (cs := [I 0]) rfl rfl rfl fun bv => ?_
  refine TO.s rfl rfl rfl (StepS.assign rfl) ?_
  refine TO.code ?_
  refine TC.k ?_
  refine TC.region ?_
  refine TO.s rfl rfl rfl (StepS.mkfn rfl) ?_
  refine TO.s rfl rfl rfl (StepS.assign rfl) ?_
  refine TO.code ?_
  refine TC.ret fun a w e s => ?_
  refine FRet.mk1 (P := Tryd.prog) (fn := Tryd.f51) (t := 6) e rfl rfl ?_
  exact ⟨_, _, rfl, ⟨bs, bp, bv, rfl, rfl⟩, s⟩
theorem C45 {B : World} {L : List HP} {s : ByteArray} {w : World} (st : St B L w) : Calls Tryd.prog 45 #[.string s, .string strk] w (fun e w' => ∃ v M, e = .returned v ∧ (∃ (bs bp bv : Nat), v = .func (.func 57) #[] #[.pointer (some ⟨bp, 0, none⟩), .pointer (some ⟨bs, 0, none⟩), .pointer (some ⟨bv, 0, none⟩)] ∧ M = (Bx bv 3 [I 0] :: Bx bp 9 [.string strk] :: Bx bs 9 [.string s] :: L)) ∧ St B M w') := by
  refine calls_of (N := 8) (L := L) (args := [.string s, .string strk]) Tryd.func45 rfl rfl rfl ?_ st
  refine TC.k ?_
  refine TC.region ?_
  refine TO.s rfl rfl rfl (StepS.assign rfl) ?_
  refine TO.code ?_
  refine TC.k ?_
  refine TC.region ?_
  refine TO.s rfl rfl rfl (StepS.move rfl) ?_
  refine TO.s rfl rfl rfl (StepS.move rfl) ?_
  refine TO.callO nB51 rfl rfl rfl (fun _ st => C51 st) ?_
  rintro _ _ ⟨bs, bp, bv, rfl, rfl⟩
  refine TO.s rfl rfl rfl (StepS.assign rfl) ?_
  refine TO.code ?_
  refine TC.ret fun a w e s => ?_
  refine FRet.mk1 (P := Tryd.prog) (fn := Tryd.f45) (t := 4) e rfl rfl ?_
  exact ⟨_, _, rfl, ⟨bs, bp, bv, rfl, rfl⟩, s⟩

/-! The iterator. -/
@[reducible] def JJ (l D bs bp bv br : Nat) (lo : Obj) (b : Bool) (L : List HP) (s : ByteArray) : List HP := Ob l lo :: Ob D (.deferred (some [])) :: Bx bv 3 [I 0] :: Bx bp 9 [.string strk] :: Bx bs 9 [.string s] :: Bx br 4 [.bool b] :: L
def szAt (bs : Nat) (w : World) : Nat := match w.cell? ⟨bs, 0, none⟩ with
  | some (.string s) => s.size
  | _ => 0
theorem szAt_of {B : World} {L : List HP} {bs k : Nat} {s : ByteArray} {w : World} (st : St B L w) (hk : L[k]? = some (Bx bs 9 [.string s])) : szAt bs w = s.size := by
  obtain ⟨h, sh, hb⟩ := st.get (Ent.at k hk)
  have := cell_of (sh bs _ hb) 0
  unfold szAt
  rw [this]; rfl
theorem cutAt_lt (s : ByteArray) (h : 0 ≤ cutAt s) : (cutAt s).toNat < s.size := by
  unfold cutAt at *
  obtain ⟨o, ho⟩ := Int.eq_ofNat_of_zero_le h
  rw [ho]
  have h1 := (Lib.indexByte_some ho).1
  have h2 := (List.getElem?_eq_some_iff.1 h1).1
  simpa using h2
theorem allG_end {n : Nat} {s : ByteArray} (h : cutAt s < 0) : allG n s = goodP s := by
  cases n with
  | zero => rfl
  | succ n => simp [allG, h]
theorem allG_more {n : Nat} {s : ByteArray} (h : 0 ≤ cutAt s) (hn : s.size ≤ n) : ∃ m, n = m + 1 ∧ allG n s = (goodP (s.extract 0 (cutAt s).toNat) && allG m (s.extract ((cutAt s).toNat + 1) s.size)) := by
  have hlt := cutAt_lt s h
  cases n with
  | zero => omega
  | succ m =>
    have : decide (cutAt s < 0) = false := by simpa using h
    exact ⟨m, rfl, by simp [allG, this]⟩
theorem post_ret {P : Program} {fn : Func} {R : Ending → World → Prop} {a : Act} {w : World} (h : FRet P fn R a w) : bodyPost P fn R .ret a w := by rw [FRet.eq] at h; exact h
theorem post_nrm {P : Program} {fn : Func} {R : Ending → World → Prop} {a : Act} {w : World} (h : FRet P fn R a w) : bodyPost P fn R .normal a w := by rw [FRet.eq] at h; exact h
set_option maxRecDepth 100000 in
theorem C57 {B : World} {L : List HP} {l D bs bp bv br : Nat} {lr ld : Obj}
    (hY : ∀ (s x : ByteArray) (w : World), St B (JJ l D bs bp bv br lr false L s) w → YieldAt Fence.wide 0 Tryd.prog l #[.string x] w (fun e w' => (goodP x = true ∧ e = .returned (.bool true) ∧ St B (JJ l D bs bp bv br lr false L s) w') ∨ (goodP x = false ∧ e = .returned (.bool false) ∧ St B (JJ l D bs bp bv br ld false L s) w')))
    {s : ByteArray} (hs : s.size ≤ 9223372036854775807) {w : World} (st : St B (JJ l D bs bp bv br lr false L s) w) :
    Calls Tryd.prog 57 #[.func (.yield l) #[] #[], .pointer (some ⟨bp, 0, none⟩), .pointer (some ⟨bs, 0, none⟩), .pointer (some ⟨bv, 0, none⟩)] w (fun e w' => (∃ v, e = .returned v) ∧ ∃ s', St B (JJ l D bs bp bv br (cond (allG s.size s) lr ld) false L s') w') := by
  refine calls_ofI (N := 52) (args := [.func (.yield l) #[] #[], .pointer (some ⟨bp, 0, none⟩), .pointer (some ⟨bs, 0, none⟩), .pointer (some ⟨bv, 0, none⟩)]) Tryd.func57 rfl rfl rfl fun a e => ?_
  refine wpIn_seq ?_
  refine wpIn_seq ?_
  refine TO.inR easyW rfl ?_ e st
  refine TO.s rfl rfl rfl (StepS.ldB rfl (Ent.at 3 rfl) nS9 rfl) ?_
  refine TO.s rfl rfl rfl (StepS.lenS nU9 rfl rfl) ?_
  refine TO.s rfl rfl rfl (StepS.cmp rfl rfl rfl) ?_
  refine TO.nil fun a w e st => ?_
  refine wpIn_cond_false (e.eval (x := .tmp 11) rfl) ?_
  refine wpIn_skip ?_
  refine wpIn_seq ?_
  refine wpIn_block ?_
  refine wpIn_loop (fun a w => ∃ s' n, EnvOk 52 [(0, .func (.yield l) #[] #[]), (1, .pointer (some ⟨bp, 0, none⟩)), (2, .pointer (some ⟨bs, 0, none⟩)), (3, .pointer (some ⟨bv, 0, none⟩))] a ∧ St B (JJ l D bs bp bv br lr false L s') w ∧ s'.size ≤ n ∧ s'.size ≤ 9223372036854775807 ∧ allG n s' = allG s.size s) (fun _ w => szAt bs w) ⟨s, s.size, e.sub (lk_of_allIn ⟨rfl, rfl, rfl, rfl, trivial⟩), st, Nat.le_refl _, hs, rfl⟩ ?_
  rintro a w ⟨s', n, e, st, hn, hs', hr⟩
  have hsz := szAt_of (k := 4) st rfl
  refine wpIn_block ?_
  refine wpIn_seq ?_
  refine TO.inR easyW rfl ?_ e st
  refine TO.s rfl rfl rfl (StepS.ldB rfl (Ent.at 4 rfl) nS9 rfl) ?_
  refine TO.s rfl rfl rfl (StepS.ldB rfl (Ent.at 3 rfl) nS9 rfl) ?_
  refine TO.q rfl rfl rfl (StepQ.call nB59 rfl rfl (fun _ st => C59 st)) ?_
  refine TO.s rfl rfl rfl (StepS.assign rfl) ?_
  refine TO.nil fun a w e st => ?_
  refine wpIn_seq ?_
  refine wpIn_seq ?_
  refine TO.inR easyW rfl ?_ e st
  refine TO.s rfl rfl rfl (StepS.move rfl) ?_
  refine TO.s rfl rfl rfl (StepS.cmp rfl rfl rfl) ?_
  refine TO.nil fun a w e st => ?_
  refine wpIn_cond_split (e.eval (x := .tmp 33) rfl) (fun hc => ?_) (fun hc => ?_)
  · -- no stroke any more: the last part
    refine wpIn_exit ?_
    show (Code.wpIn _ _ _ _ _ a w)
    rw [allG_end (by simpa using hc)] at hr
    refine TO.inN easyW 2 rfl ?_ e st
    refine TO.s rfl rfl rfl (StepS.move rfl) ?_
    refine TO.s rfl rfl rfl (StepS.ldB rfl (Ent.at 4 rfl) nS9 rfl) ?_
    refine TO.nil fun a w e st => ?_
    refine yieldIn easyW (e.eval (x := .tmp 49) rfl) (e.eval (x := .tmp 50) rfl) ?_
    obtain ⟨fn, tmps, asg, bd, hy, hR⟩ := hY s' s' w st
    refine ⟨fn, tmps, asg, bd, hy, hR.mono ?_⟩
    rintro e2 w2 (⟨hg, rfl, st2⟩ | ⟨hg, rfl, st2⟩)
    · refine ⟨_, rfl, ?_⟩
      exact post_nrm (FRet.mk0 (P := Tryd.prog) (fn := Tryd.f57) (e.put rfl _) rfl ⟨⟨_, rfl⟩, s', by rw [← hr, hg]; exact st2⟩)
    · refine ⟨_, rfl, ?_⟩
      exact post_nrm (FRet.mk0 (P := Tryd.prog) (fn := Tryd.f57) (e.put rfl _) rfl ⟨⟨_, rfl⟩, s', by rw [← hr, hg]; exact st2⟩)
  · refine wpIn_skip ?_
    have h0 : 0 ≤ cutAt s' := by simpa using hc
    have hlt := cutAt_lt s' h0
    obtain ⟨m, rfl, hm⟩ := allG_more h0 hn
    rw [hm] at hr
    refine wpIn_seq ?_
    have hw0 : w64 (cutAt s' + 0) = cutAt s' := by rw [Int.add_zero]; exact w64_of (by omega) (by omega)
    have hw1 : w64 (cutAt s' + 1) = cutAt s' + 1 := w64_of (by omega) (by omega)
    have hx1 : sslc s' 0 (w64 (cutAt s' + 0)) = some (s'.extract 0 (cutAt s').toNat) := by
      rw [hw0]; unfold sslc; rw [if_pos ⟨by omega, h0, by omega⟩]; rfl
    have hx2 : sslc s' (w64 (cutAt s' + ((strk.size : Nat) : Int))) (s'.size : Int) = some (s'.extract ((cutAt s').toNat + 1) s'.size) := by
      rw [show ((strk.size : Nat) : Int) = 1 from rfl, hw1]; unfold sslc; rw [if_pos ⟨by omega, by omega, by omega⟩]
      rw [show (cutAt s' + 1).toNat = (cutAt s').toNat + 1 by omega]; rfl
    refine TO.inR easyW rfl ?_ e st
    refine TO.s rfl rfl rfl (StepS.ldB rfl (Ent.at 4 rfl) nS9 rfl) ?_
    refine TO.s rfl rfl rfl (StepS.move rfl) ?_
    refine TO.s rfl rfl rfl (StepS.ldB rfl (Ent.at 2 rfl) nS3 rfl) ?_
    refine TO.s rfl rfl rfl (StepS.ari rfl rfl rfl) ?_
    refine TO.s rfl rfl rfl (StepS.slcS nU9 rfl rfl rfl hx1) ?_
    refine TO.s rfl rfl rfl (StepS.assign rfl) ?_
    refine TO.nil fun a w e st => ?_
    refine wpIn_seq ?_
    refine wpIn_seq ?_
    refine TO.inN easyW 2 rfl ?_ e st
    refine TO.s rfl rfl rfl (StepS.move rfl) ?_
    refine TO.s rfl rfl rfl (StepS.move rfl) ?_
    refine TO.nil fun a w e st => ?_
    refine yieldIn easyW (e.eval (x := .tmp 39) rfl) (e.eval (x := .tmp 40) rfl) ?_
    obtain ⟨fn, tmps, asg, bd, hy, hR⟩ := hY s' (s'.extract 0 (cutAt s').toNat) w st
    refine ⟨fn, tmps, asg, bd, hy, hR.mono ?_⟩
    rintro e2 w2 (⟨hg, rfl, st2⟩ | ⟨hg, rfl, st2⟩)
    · refine ⟨_, rfl, ?_⟩
      refine TO.inD easyW rfl ?_ (e.put rfl _) st2
      refine TO.s rfl rfl rfl (StepS.not rfl) ?_
      refine TO.nil fun a w e st => ?_
      refine wpIn_cond_false (e.eval (x := .tmp 42) rfl) ?_
      refine wpIn_skip ?_
      refine TO.inR easyW rfl ?_ e st
      refine TO.s rfl rfl rfl (StepS.ldB rfl (Ent.at 4 rfl) nS9 rfl) ?_
      refine TO.s rfl rfl rfl (StepS.move rfl) ?_
      refine TO.s rfl rfl rfl (StepS.ldB rfl (Ent.at 3 rfl) nS9 rfl) ?_
      refine TO.s rfl rfl rfl (StepS.lenS nU9 rfl rfl) ?_
      refine TO.s rfl rfl rfl (StepS.ari rfl rfl rfl) ?_
      refine TO.s rfl rfl rfl (StepS.slcS nU9 rfl rfl rfl hx2) ?_
      refine TO.stB (us := [.string (s'.extract ((cutAt s').toNat + 1) s'.size)]) 4 [.string (s'.extract ((cutAt s').toNat + 1) s'.size)] rfl rfl rfl nZ9 rfl rfl rfl (by simp [Value.oneCell']) rfl ?_
      refine TO.nil fun a w e st => ?_
      have hsz2 := szAt_of (k := 4) st rfl
      have hes : (s'.extract ((cutAt s').toNat + 1) s'.size).size = s'.size - ((cutAt s').toNat + 1) := by rw [ByteArray.size_extract]; omega
      rw [hg, Bool.true_and] at hr
      refine ⟨⟨s'.extract ((cutAt s').toNat + 1) s'.size, m, e.sub (lk_of_allIn ⟨rfl, rfl, rfl, rfl, trivial⟩), st, by rw [hes]; omega, by rw [hes]; omega, hr⟩, ?_⟩
      rw [hsz2, hes, hsz]
      omega
    · refine ⟨_, rfl, ?_⟩
      refine TO.inD easyW rfl ?_ (e.put rfl _) st2
      refine TO.s rfl rfl rfl (StepS.not rfl) ?_
      refine TO.nil fun a w e st => ?_
      refine wpIn_cond_true (e.eval (x := .tmp 42) rfl) ?_
      refine wpIn_ret ?_
      rw [hg, Bool.false_and] at hr
      have q := post_ret (FRet.mk0 (P := Tryd.prog) (fn := Tryd.f57) (R := fun e w' => (∃ v, e = Ending.returned v) ∧ ∃ s', St B (JJ l D bs bp bv br (cond (allG s.size s) lr ld) false L s') w') e rfl ⟨⟨_, rfl⟩, s', by rw [← hr]; exact st⟩)
      exact q

theorem storeB {P : Program} {B : World} {L : List HP} {w : World} {a : Act} {t e b k : Nat} {x y : Operand} {v u : Value} {dd : Option Tmp} {ty : TypeId} {ps : String} {af : Array Edge} {gd : Option (Nat × Bool)} (s : St B L w) (hx : a.eval x = .pointer (some ⟨b, 0, none⟩)) (hy : a.eval y = v) (hk : L[k]? = some (Bx b e [u])) (ht : sizeB P t 1 = true) (hv : v.cells = #[v]) (h1 : v.oneCell' = true) :
    ∃ w', (execOp a.eval ⟨dd, .store t x y, ty, ps, af, gd⟩).run P w = .ok .skip w' ∧ St B (L.set k (Bx b e [v])) w' := by
  obtain ⟨h, sh, hb⟩ := s.get (Ent.at k hk)
  have hg := sh b _ hb
  have hrs := Go.Bk.run_store (P := P) (o := 0) ht hg (us := [v]) hv rfl (by simp) (by simpa using h1)
  have hr : (execOp a.eval ⟨dd, .store t x y, ty, ps, af, gd⟩).run P w = .ok .skip (w.setRow b (splice [u] 0 [v]).toArray) := by
    simp only [execOp, hx, hy, Sem.run_bind, hrs]
    rfl
  refine ⟨_, hr, s.os, s.tape, s.output, ?_⟩
  rw [hw_setRow hg]
  exact (Sat.upd k hk s.sat fun g1 s1 ho => ⟨by rw [show g1 b = _ from ho]; simp, by simp [Bx, put, splice]⟩).1
theorem C57r {B : World} {L : List HP} {l D bs bp bv br : Nat} {fn : FuncId} {tm : Array Value} {ps : Array Tmp} {asg bd : Code}
    (hY : ∀ (s x : ByteArray) (w : World), St B (JJ l D bs bp bv br (.loop (rcd fn tm ps asg bd D .ready none)) false L s) w → YieldAt Fence.wide 0 Tryd.prog l #[.string x] w (fun e w' => (goodP x = true ∧ e = .returned (.bool true) ∧ St B (JJ l D bs bp bv br (.loop (rcd fn tm ps asg bd D .ready none)) false L s) w') ∨ (goodP x = false ∧ e = .returned (.bool false) ∧ St B (JJ l D bs bp bv br (.loop (rcd fn tm ps asg bd D .done (some .ret))) false L s) w')))
    {s : ByteArray} (hs : s.size ≤ 9223372036854775807) {w : World} (st : St B (JJ l D bs bp bv br (.loop (rcd fn tm ps asg bd D .ready none)) false L s) w) :
    Calls Tryd.prog 57 #[.func (.yield l) #[] #[], .pointer (some ⟨bp, 0, none⟩), .pointer (some ⟨bs, 0, none⟩), .pointer (some ⟨bv, 0, none⟩)] w (fun e w' => (∃ v, e = .returned v) ∧ ∃ s', St B (JJ l D bs bp bv br (cond (allG s.size s) (.loop (rcd fn tm ps asg bd D .ready none)) (.loop (rcd fn tm ps asg bd D .done (some .ret)))) false L s') w') := C57 hY hs st
theorem enters57 : ∀ args w, (callFunc 57 args).run Tryd.prog w = .ok (.enter 57 args) w := enters_of Tryd.func57 (by kernel_rfl) rfl
set_option maxRecDepth 100000 in
theorem C35 {B : World} {L : List HP} {a0 : ByteArray} {r0 : Bool} (hm : F35 a0 = some r0) {w : World} (st : St B L w) : Calls Tryd.prog 35 #[.string a0] w (fun e w' => (e = .returned (.bool r0) ∧ St B (L) w')) := by
  refine calls_ofM (N := 24) (L := L) (args := [.string a0]) Tryd.func35 rfl rfl rfl ?_ st
  dsimp only [F35] at hm
  refine TC.k ?_
  refine TC.region ?_
  refine TO.alloc nI4 rfl rfl fun br => ?_
  refine TO.code ?_
  refine TC.k ?_
  refine TC.k ?_
  refine TC.region ?_
  refine TO.s rfl rfl rfl (StepS.move rfl) ?_
  refine TO.s rfl rfl rfl (StepS.cmpS nU9 rfl rfl rfl) ?_
  refine TO.code ?_
  refine TC.cond rfl (fun hc1 => ?_) (fun hc1 => ?_)
  · replace hm := cond_t hc1 hm
    refine TC.k ?_
    refine TC.region ?_
    refine TO.stB (us := [.bool true]) 0 [.bool true] rfl rfl rfl nZ4 rfl rfl rfl (by simp [Value.oneCell']) rfl ?_
    refine TO.code ?_
    cases hm
    refine TC.ret fun a w e s => ?_
    have hd := e.defers
    show LeavesInM _ _ _ _ _ _ a.defers _ _
    rw [hd]
    exact ⟨_, resCell s rfl (e.getD rfl) (Ent.at 0 rfl) nS4, rfl, s.mono fun _ => Sat.dropN 1⟩
  · replace hm := cond_f hc1 hm
    refine TC.skipk ?_
    refine TC.k ?_
    refine TC.region ?_
    refine TO.s rfl rfl rfl (StepS.move rfl) ?_
    obtain ⟨⟨r3, r4⟩, hc2, hm⟩ := bind_some hm
    refine TO.q rfl rfl rfl (StepQ.call nB44 rfl rfl (fun _ st => C44 hc2 st)) ?_
    refine TO.s rfl rfl rfl (StepS.move rfl) ?_
    refine TO.s rfl rfl rfl (StepS.extract rfl rfl) ?_
    refine TO.s rfl rfl rfl (StepS.extract rfl rfl) ?_
    refine TO.s rfl rfl rfl (StepS.assign rfl) ?_
    refine TO.s rfl rfl rfl (StepS.assign rfl) ?_
    refine TO.code ?_
    refine TC.k ?_
    refine TC.k ?_
    refine TC.region ?_
    refine TO.s rfl rfl rfl (StepS.move rfl) ?_
    refine TO.s rfl rfl rfl (StepS.not rfl) ?_
    refine TO.code ?_
    refine TC.cond rfl (fun hc3 => ?_) (fun hc3 => ?_)
    · replace hm := cond_t hc3 hm
      refine TC.k ?_
      refine TC.region ?_
      refine TO.stB (us := [.bool false]) 0 [.bool false] rfl rfl rfl nZ4 rfl rfl rfl (by simp [Value.oneCell']) rfl ?_
      refine TO.code ?_
      cases hm
      refine TC.ret fun a w e s => ?_
      have hd := e.defers
      show LeavesInM _ _ _ _ _ _ a.defers _ _
      rw [hd]
      exact ⟨_, resCell s rfl (e.getD rfl) (Ent.at 0 rfl) nS4, rfl, s.mono fun _ => Sat.dropN 1⟩
    · replace hm := cond_f hc3 hm
      have hsz : r3.size ≤ 9223372036854775807 := by
        by_cases h : r3.size ≤ 9223372036854775807
        · exact h
        · rw [if_neg h] at hm; cases hm
      rw [if_pos hsz] at hm
      obtain rfl := Option.some.inj hm
      refine TC.skipk ?_
      refine TC.k ?_
      refine TC.k ?_
      refine TC.region ?_
      refine TO.s rfl rfl rfl (StepS.move rfl) ?_
      refine TO.callO nB45 rfl rfl rfl (fun _ st => C45 st) ?_
      rintro _ _ ⟨bs, bp, bv, rfl, rfl⟩
      refine TO.code ?_
      refine TC.block ?_
      intro a w e st
      refine rangeF e.defers st (e.eval (x := .tmp 16) rfl) enters57 fun fn l D w2 st2 => ?_
      have e0 : EnvOk 24 [(2, .pointer (some ⟨br, 0, none⟩))] a := e.sub (lk_of_allIn ⟨rfl, trivial⟩)
      refine (C57r (br := br) ?_ hsz st2).mono ?_
      · intro s x w st
        refine yieldS (N := 24) (E1 := [(5, .string x), (17, .string x), (2, .pointer (some ⟨br, 0, none⟩))]) st e0 rfl ?_ ?_
        · intro a w e L' st
          refine TO.inR (easyR l) rfl ?_ e st
          refine TO.s rfl rfl rfl (StepS.assign rfl) ?_
          exact TO.nil fun a w e s => ⟨e, s⟩
        · intro a w e st
          refine wpIn_block ?_
          refine wpIn_seq ?_
          refine TO.inR (easyR l) rfl ?_ e st
          refine TO.s rfl rfl rfl (StepS.move rfl) ?_
          refine TO.s rfl rfl rfl (StepS.cmpS nU9 rfl rfl rfl) ?_
          refine TO.s rfl rfl rfl (StepS.move rfl) ?_
          refine bcase (sEq x (ByteArray.mk #[])) (fun hb => ?_) (fun hb => ?_)
          · refine TO.skip rfl rfl rfl (skipT hb) rfl rfl ?_
            refine TO.skip rfl rfl rfl (skipT hb) rfl rfl ?_
            refine TO.s rfl rfl rfl (StepS.pickT rfl hb rfl) ?_
            refine TO.nil fun a w e st => ?_
            have hg : goodP x = false := by unfold goodP; rw [hb]; rfl
            refine wpIn_cond_true (e.eval (x := .tmp 23) rfl) ?_
            refine wpIn_seq ?_
            refine TO.inR (easyR l) rfl ?_ e st
            refine TO.stB (us := [.bool false]) 5 [.bool false] rfl rfl rfl nZ4 rfl rfl rfl (by simp [Value.oneCell']) rfl ?_
            refine TO.nil fun a w e st => ?_
            refine wpIn_ret ?_
            exact ⟨_, st, fun w' s' => .inr ⟨hg, rfl, s'⟩⟩
          · refine TO.sw rfl rfl rfl hb rfl rfl (StepS.move rfl) ?_
            refine TO.qw rfl rfl rfl hb rfl rfl (StepQ.call nB46 rfl rfl (fun _ st => C46 st)) ?_
            refine TO.s rfl rfl rfl (StepS.pickF rfl hb rfl) ?_
            refine TO.nil fun a w e st => ?_
            refine wpIn_cond_split (e.eval (x := .tmp 23) rfl) (fun hc => ?_) (fun hc => ?_)
            · have hg : goodP x = false := by unfold goodP; rw [hb, hc]; rfl
              refine wpIn_seq ?_
              refine TO.inR (easyR l) rfl ?_ e st
              refine TO.stB (us := [.bool false]) 5 [.bool false] rfl rfl rfl nZ4 rfl rfl rfl (by simp [Value.oneCell']) rfl ?_
              refine TO.nil fun a w e st => ?_
              refine wpIn_ret ?_
              exact ⟨_, st, fun w' s' => .inr ⟨hg, rfl, s'⟩⟩
            · have hg : goodP x = true := by unfold goodP; rw [hb, hc]; rfl
              refine wpIn_skip ?_
              exact ⟨_, st, fun w' s' => .inl ⟨hg, rfl, s'⟩⟩
      · rintro e3 w3 ⟨hv, s', st3⟩
        refine ⟨hv, allG r3.size r3, Bx bv 3 [I 0] :: Bx bp 9 [.string strk] :: Bx bs 9 [.string s'] :: Bx br 4 [.bool false] :: L, ?_, ?_⟩
        · cases hb : allG r3.size r3 <;> rw [hb] at st3 <;> exact st3
        · intro w4 st4
          cases hb : allG r3.size r3 with
          | true =>
            show Code.wp _ _ _ _ _
            refine wp_seq ?_
            refine wp_region_lit ?_
            obtain ⟨w5, hr5, st5⟩ := storeB (P := Tryd.prog) (a := { a with defers := [{ target := .collected D, args := #[] }] }) (t := 4) (dd := none) (ty := 0) (ps := "tree.go:37") (af := #[]) (gd := none) (k := 4) (v := .bool true) (x := .tmp 2) (y := .const (.bool true)) st4 (e.eval (x := .tmp 2) rfl) rfl rfl nZ4 rfl rfl
            refine wpList_plain rfl fun K hK => ?_
            unfold Oper.wp
            rw [hr5]
            refine hK _ _ ?_
            show Code.wp _ _ _ _ _
            refine wp_ret ?_
            exact leaveM st5 fun w6 st6 => ⟨_, resCell st6 rfl (e.getD rfl) (Ent.at 3 rfl) nS4, rfl, st6.mono fun _ => Sat.dropN 4⟩
          | false =>
            exact leaveM st4 fun w6 st6 => ⟨_, resCell st6 rfl (e.getD rfl) (Ent.at 3 rfl) nS4, rfl, st6.mono fun _ => Sat.dropN 4⟩
end Go.Proofs.YtadfgohglcglcaaDoor
