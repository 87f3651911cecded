import Derived.Test.YtadfgohglcglcaaDoorBk28
import Derived.Test.YtadfgohglcglcaaDoorBk36
/-
  slices.Sort of a slice of strings that is the call's own, by the kit's contract.
-/
namespace Go.Bk
open Go Go.Sort Go.Proofs
set_option linter.unusedVariables false
/-- The block of a pointer. -/
def pq : Value → Nat
  | .pointer (Option.some a) => a.block
  | _ => 0
def bl (b : ByteArray) : List UInt8 := b.data.toList
def lb (l : List UInt8) : ByteArray := ⟨l.toArray⟩
theorem lb_bl (b : ByteArray) : lb (bl b) = b := by unfold lb bl; simp
theorem bl_lb (l : List UInt8) : bl (lb l) = l := by unfold lb bl; simp
def sortedS (zs : List ByteArray) : List ByteArray := ((zs.map bl).mergeSort fun x y => decide (x ≤ y)).map lb
theorem sortedS_len (zs : List ByteArray) : (sortedS zs).length = zs.length := by unfold sortedS; rw [List.length_map, List.length_mergeSort, List.length_map]
def cL (l : List UInt8) : List Value := [encStr l]
theorem flat_cL : ∀ (zs : List (List UInt8)), (zs.map cL).flatten = zs.map encStr
  | [] => rfl
  | z :: zs => by rw [List.map_cons, List.flatten_cons, flat_cL zs]; rfl
theorem cL_bl (zs : List ByteArray) : (zs.map bl).map cL = zs.map cS := by
  rw [List.map_map]
  refine List.map_congr_left fun b _ => ?_
  show [Value.string (lb (bl b))] = [Value.string b]
  rw [lb_bl]
theorem cS_lb (ls : List (List UInt8)) : (ls.map lb).map cS = ls.map cL := by
  rw [List.map_map]; rfl
theorem hw_putRowS {w : World} {g og : Nat} {d : Array (List UInt8)} {cur : Array Value} {e : TypeId} {fz : Nat × Nat} (h : hw w g = some (.cells cur e fz)) (n : Nat) :
    hw (putRow encStr (Go.Sort.ahead w n) g og d) = put (hw w) g (.cells (putCells encStr og d cur) e fz) := by
  funext c
  unfold hw at h
  show (w.heap.modify g (onCells (putCells encStr og d)))[c]? = _
  rw [Array.getElem?_modify]
  by_cases hc : g = c
  · subst hc; rw [if_pos rfl, h, put_same]; rfl
  · rw [if_neg hc, put_ne _ _ (fun q => hc q.symm)]; rfl
theorem seg_sortedS {og : Nat} {zs : List (List UInt8)} {cur : Array Value} (hsz : og + zs.length ≤ cur.size) : ((putCells encStr og zs.toArray cur).toList.drop og).take zs.length = zs.map encStr := by
  apply List.ext_getElem?
  intro j
  rw [List.getElem?_take, List.getElem?_map]
  by_cases hj : j < zs.length
  · rw [if_pos hj, List.getElem?_drop, List.getElem?_eq_getElem hj]
    have h1 : og + j < cur.size := by omega
    unfold putCells
    rw [Array.getElem?_toList, Array.getElem?_mapIdx, Array.getElem?_eq_getElem h1]
    have h2 : og ≤ og + j ∧ og + j < og + zs.toArray.size := by simp; omega
    simp only [Option.map_some, if_pos h2, Nat.add_sub_cancel_left]
    rw [getElem!_pos _ j (by simpa using hj)]
    simp
  · rw [if_neg hj, List.getElem?_eq_none (by omega)]; rfl
variable {P : Program} {N : Nat} {B : World} {E : Env} {L : List HP}
theorem St.putRowS {w : World} {k e g og cap : Nat} {zs zs' : List (List UInt8)} (s : St B L w) (hk : L[k]? = some (OwnS e 1 (.slice (some ⟨g, og, none⟩) zs.length cap) (zs.map cL))) (hne : zs ≠ []) (hl : zs'.length = zs.length) (n : Nat) (os : Array Obj) :
    St B (L.set k (OwnS e 1 (.slice (some ⟨g, og, none⟩) zs.length cap) (zs'.map cL))) (Go.Sort.grow (Go.Sort.putRow encStr (Go.Sort.ahead w n) g og zs'.toArray) os) := by
  obtain ⟨hA, sA, hlA, hr⟩ := s.get (Ent.at k hk)
  rcases hr with ⟨_, hn⟩ | ⟨g', o', cap', cur, he, hc, hm, hg, hsize, htk⟩
  · exact absurd (by simpa using hn) hne
  · simp only [List.length_map] at hc htk he
    cases he
    have hgw := sA g _ hg
    refine ⟨⟨s.os.1, s.os.2.ahead n⟩, s.tape, s.output, ?_⟩
    refine Sat.mono (Sub.grow os (Sub.refl _)) ?_
    rw [hw_putRowS hgw n]
    refine (Sat.upd k hk s.sat fun g1 s1 ho => ⟨?_, fun c hc => ?_, .inr ⟨g, og, cap, _, by rw [List.length_map, hl], by rw [List.length_map, hl]; exact hc, hm, put_same _ _ _, ?_, ?_⟩⟩).1
    · rcases ho.2 with ⟨_, hnl⟩ | ⟨g', og', cap'', cur', he, _, _, hg', _⟩
      · exact absurd (by simpa using hnl) hne
      · simp only [List.length_map] at he; cases he; rw [hg']; simp
    · obtain ⟨y, _, rfl⟩ := List.mem_map.1 hc; rfl
    · unfold putCells; simp; omega
    · rw [List.length_map, Nat.mul_one, seg_sortedS (by omega), flat_cL]
/-- What is known of the program's own sort at strings. -/
structure SortSs (P : Program) (k : Nat) : Prop where
  some : ∀ (blk off cap : Nat) (zs : List (List UInt8)) (w : World), Holds encStr w blk off zs.toArray → blk < w.heap.size → zs.length < 4611686018427387904 →
    Calls P k #[.slice (some ⟨blk, off, none⟩) zs.length cap] w fun e w' => e = .returned (.tuple #[]) ∧ ∃ n os, w' = Go.Sort.grow (Go.Sort.putRow encStr (Go.Sort.ahead w n) blk off (zs.mergeSort fun x y => decide (x ≤ y)).toArray) os
  none : ∀ (p : Option Addr) (cap : Nat) (w : World), Calls P k #[.slice p 0 cap] w fun e w' => e = .returned (.tuple #[]) ∧ w' = w
open Go.Shelf Go.Proofs in
theorem SortSs.of {ρ : Ren} (Ly : Lays.n190 P ρ) : SortSs P (ρ.f 190) := ⟨Any.slices_Sort_string Ly, Any.slices_Sort_string_none Ly⟩
theorem OwnS.holdsS {w : World} {e g og cap : Nat} {zs : List (List UInt8)} (hc : zs.length ≤ cap) {cur : Array Value} (hg : hw w g = some (.cells cur e (0, 0))) (hsize : og + cap * 1 ≤ cur.size) (htk : (cur.toList.drop og).take (zs.length * 1) = (zs.map cL).flatten) : Holds encStr w g og zs.toArray := by
  intro j hj
  simp at hj
  have h1 : og + j < cur.size := by omega
  have h2 : cur[og + j]? = some (encStr zs[j]) := by
    have h3 : ((cur.toList.drop og).take (zs.length * 1))[j]? = some (encStr zs[j]) := by rw [htk, flat_cL, List.getElem?_map, List.getElem?_eq_getElem hj]; rfl
    rw [List.getElem?_take, if_pos (by omega), List.getElem?_drop] at h3
    simpa using h3
  unfold hw at hg
  have h4 : zs.toArray[j]! = zs[j] := by rw [getElem!_pos _ j (by simpa using hj)]; simp
  rw [h4]
  constructor
  · simp [World.cell?, hg, h2]
  · simp [World.frozen?, hg]
/-- the model of slices.Sort at strings -/
def srtS (zs : List ByteArray) : Option (List ByteArray) := if zs.length < 4611686018427387904 then some (sortedS zs) else none
theorem srtS_spec {zs ys : List ByteArray} (h : srtS zs = some ys) : zs.length < 4611686018427387904 ∧ ys = sortedS zs := by
  unfold srtS at h
  split at h
  · exact ⟨by assumption, (Option.some.inj h).symm⟩
  · cases h
theorem SortSs.call {f e k : Nat} {v : Value} {zs : List ByteArray} (S : SortSs P f) (hml : zs.length < 4611686018427387904) (hk : L[k]? = Option.some (OwnS e 1 v (zs.map cS))) (w : World) (s : St B L w) :
    Calls P f #[v] w (fun e' w' => ∃ u M, e' = .returned u ∧ (u = .tuple #[] ∧ M = L.set k (OwnS e 1 v ((sortedS zs).map cS))) ∧ St B M w') := by
  have hk0 := hk
  rw [← cL_bl] at hk
  have hgoal : (sortedS zs).map cS = ((zs.map bl).mergeSort fun x y => decide (x ≤ y)).map cL := cS_lb _
  rw [hgoal]
  have hlen : zs.length = (zs.map bl).length := by simp
  have hnil : zs = [] ↔ zs.map bl = [] := by simp
  rw [hlen] at hml
  generalize zs.map bl = ls at hk hml hgoal hnil
  obtain ⟨hA, sA, hlA, hr⟩ := s.get (Ent.at k hk)
  by_cases hne : ls = []
  · subst hne
    have hL : L.set k (OwnS e 1 v ((([] : List (List UInt8)).mergeSort fun x y => decide (x ≤ y)).map cL)) = L := by rw [show (([] : List (List UInt8)).mergeSort fun x y => decide (x ≤ y)) = [] by simp]; exact set_same hk
    have hv : ∃ p cap, v = .slice p 0 cap := by
      rcases hr with ⟨⟨a, rfl⟩, _⟩ | ⟨g, og, cap, cur, rfl, _⟩
      · exact ⟨a, 0, rfl⟩
      · exact ⟨_, cap, rfl⟩
    obtain ⟨p, cap, rfl⟩ := hv
    refine (S.none p cap w).mono ?_
    rintro e' w' ⟨rfl, rfl⟩
    exact ⟨_, _, rfl, ⟨rfl, rfl⟩, by rw [hL]; exact s⟩
  · rcases hr with ⟨_, hn⟩ | ⟨g, og, cap, cur, rfl, hc, hm, hg, hsize, htk⟩
    · exact absurd (by simpa using hn) hne
    · simp only [List.length_map] at hc htk hk ⊢
      have hgw := sA g _ hg
      have hlt : g < w.heap.size := (Array.getElem?_eq_some_iff.1 (show w.heap[g]? = _ from hgw)).1
      refine (S.some g og cap ls w (OwnS.holdsS hc hgw hsize htk) hlt hml).mono ?_
      rintro e' w' ⟨rfl, n, os, rfl⟩
      exact ⟨_, _, rfl, ⟨rfl, rfl⟩, St.putRowS s hk hne (List.length_mergeSort ls) n os⟩
/-- An array in a box, cut to a slice. -/
theorem StepS.slcArr {dd : Option Tmp} {ty : TypeId} {ps : String} {af : Array Edge} {gd : Option (Nat × Bool)} {t n e b o : Nat} {x : Operand} (hx : opv E x = Option.some (.pointer (Option.some ⟨b, o, Option.none⟩))) (ht : arrB P t n e 1 = true) (h0 : Nat.blt 0 n = true) :
    StepS P N B ⟨dd, .slice t x Option.none Option.none Option.none, ty, ps, af, gd⟩ E L (.slice (Option.some ⟨b, o, Option.none⟩) n n) := fun a w en' s => by
  obtain ⟨hu, hs⟩ := arrB_spec ht
  have hn : 0 < n := by simpa [Nat.blt_eq] using h0
  have hne : ¬ n = 0 := by omega
  simp [execOp, en'.eval hx, Instr.sliceAt, run_underlying hu, Instr.sureAddr, Instr.sliceBounds, run_sizeB hs, Addr.add]
theorem Bx.rdA {α : Type} {f : α → List Value} {fv : α → Value} {b e o n : Nat} {cs : List Value} {l : List α} (en : Ent L (Bx b e cs)) (hn : l.length = n) (h : (cs.drop o).take n = l.map fv) (hf : ∀ x, f x = [fv x]) (hm : n ≤ maxLen) :
    Ent L (Rd 1 (.slice (Option.some ⟨b, o, Option.none⟩) n n) (l.map f)) := en.imp fun g hb => by
  refine ⟨g, Sub.refl g, fun c hc => ?_, .inr ⟨b, o, n, cs.toArray, e, (0, 0), by rw [List.length_map, hn], by rw [List.length_map, hn]; exact Nat.le_refl _, hm, hb, ?_⟩⟩
  · obtain ⟨x, _, rfl⟩ := List.mem_map.1 hc
    rw [hf]; rfl
  · intro i c j v hi hj
    rw [List.getElem?_map] at hi
    obtain ⟨x, hx, rfl⟩ := Option.map_eq_some_iff.1 hi
    rw [hf] at hj
    have hj0 : j = 0 := by
      cases j with
      | zero => rfl
      | succ j => simp at hj
    subst hj0
    have hv : fv x = v := by simpa using hj
    subst hv
    have hin : i < n := by rw [← hn]; exact (List.getElem?_eq_some_iff.1 hx).1
    have := congrArg (fun z => z[i]?) h
    simp only [List.getElem?_take, if_pos hin, List.getElem?_drop, List.getElem?_map, hx, Option.map_some] at this
    simpa using this
theorem SN.nilE {α : Type} {e sz : Nat} {T : NT α} : Ent L (SN e sz T nilv [] ([] : List α)) := fun h s => by
  obtain ⟨h1, h2, d, s1, s2, a, r⟩ := Sat.nilSN (e := e) (sz := sz) (T := T) s
  exact ⟨h1, s1, a⟩
theorem Sat.prefixS {M R : List HP} {h : PH} (s : Sat (M ++ R) h) : ∃ g, Sub g h ∧ Stars M g := by
  obtain ⟨h1, h2, d, s1, s2, a, r⟩ := Sat.bag (M := M) s
  exact ⟨h1, s1, a⟩
/-- The front of a slice of structs. -/
theorem SN.sub {α : Type} {e sz : Nat} {T : NT α} {v : Value} {gs : List (List Value)} {xs ys : List α} {i : Int} (en : Ent L (SN e sz T v gs xs)) (hs : slI xs 0 i = Option.some ys) : Ent L (SN e sz T (subv v 0 i sz) (gs.take i.toNat) ys) := fun h s => by
  obtain ⟨g, sg, hl, a⟩ := en h s
  obtain ⟨h0, h1, h2, hys⟩ := slI_spec hs
  rw [show (0 : Int).toNat = 0 from rfl, List.drop_zero] at hys
  subst hys
  have s1 : Sat (OwnS e sz v (cellsN T gs xs) :: piecesN T gs xs) g := by
    have := Sat.flat (M := OwnS e sz v (cellsN T gs xs) :: piecesN T gs xs) (L := []) ⟨g, fun _ => Option.none, fun _ => .inr rfl, Sub.refl g, fun _ _ e => (by cases e), a, trivial⟩
    rwa [List.append_nil] at this
  have hc : slI (cellsN T gs xs) 0 i = Option.some ((cellsN T gs xs).take i.toNat) := by
    unfold slI
    rw [if_pos ⟨by omega, h1, by unfold cellsN; rw [List.length_zipWith, hl, Nat.min_self]; exact h2⟩]
    simp
  have s2 := Sat.cutO (f := id) 0 (by rw [List.map_id]; rfl) hc s1
  rw [List.map_id] at s2
  have e1 : (cellsN T gs xs).take i.toNat = cellsN T (gs.take i.toNat) (xs.take i.toNat) := List.take_zipWith
  have e2 : piecesN T gs xs = piecesN T (gs.take i.toNat) (xs.take i.toNat) ++ (piecesN T gs xs).drop i.toNat := by
    have : (piecesN T gs xs).take i.toNat = piecesN T (gs.take i.toNat) (xs.take i.toNat) := List.take_zipWith
    rw [← this, List.take_append_drop]
  have s3 : Sat ((OwnS e sz (subv v 0 i sz) (cellsN T (gs.take i.toNat) (xs.take i.toNat)) :: piecesN T (gs.take i.toNat) (xs.take i.toNat)) ++ (piecesN T gs xs).drop i.toNat) g := by
    rw [List.cons_append, ← e2, ← e1]; exact s2
  obtain ⟨k, sk, hk⟩ := Sat.prefixS s3
  exact ⟨k, sk.trans sg, by rw [List.length_take, List.length_take, hl], hk⟩
theorem StepS.slcN {α : Type} {e sz : Nat} {T : NT α} {gs : List (List Value)} {xs ys : List α} {dd : Option Tmp} {ty : TypeId} {ps : String} {af : Array Edge} {gd : Option (Nat × Bool)} {t : Nat} {x : Operand} {lo hi : Option Operand} {v : Value} {i : Int} (hx : opv E x = some v) (en : Ent L (SN e sz T v gs xs)) (ht : sliceB P t e sz = true)
    (hl : bnd E lo 0 = some 0) (hh : ∀ d, bnd E hi d = some i) (hs : slI xs 0 i = Option.some ys) : StepS P N B ⟨dd, .slice t x lo hi Option.none, ty, ps, af, gd⟩ E L (subv v 0 i sz) := fun a w en' s => by
  obtain ⟨_, h1, h2, _⟩ := slI_spec hs
  have hlen := SN.len en s.sat
  have hc : (cellsN T gs xs).length = xs.length := by unfold cellsN; rw [List.length_zipWith, hlen, Nat.min_self]
  exact StepS.slc hx (SN.top en) ht hl (hh _) (by omega) h1 (by rw [hc]; exact h2) a w en' s
variable {ops : Array Oper} {rest : List Oper} {Q : Act → World → Prop} {d : Nat} {ty : TypeId} {ps : String} {af : Array Edge}
/-- slices.Sort(s) at strings -/
theorem TO.sortSO {f e : Nat} {v : Value} {zs ys : List ByteArray} {fo x : Operand} {ts : Array TypeId} (k : Nat) (hf : callB P f = true) (S : SortSs P f) (hs : srtS zs = Option.some ys) (hfo : opv E fo = Option.some (.func (.func f) #[] #[])) (hx : opv E x = Option.some v) (hk : L[k]? = Option.some (OwnS e 1 v (zs.map cS))) (hd : Nat.blt d N = true)
    (h : TO P N B ops rest ((d, .tuple #[]) :: E) (L.set k (OwnS e 1 v (ys.map cS))) Q) : TO P N B ops (⟨Option.some d, .call ⟨.value fo, #[x], ts⟩, ty, ps, af, Option.none⟩ :: rest) E L Q :=
  TO.step rfl rfl hd (StepW.call («as» := [x]) (vs := [v]) (R := fun u M => u = .tuple #[] ∧ M = L.set k (OwnS e 1 v ((sortedS zs).map cS))) hf hfo (by simp [opvs, hx]) (by simp) fun w s => SortSs.call S (srtS_spec hs).1 hk w s) fun u M ⟨hu, hM⟩ => by subst hu; subst hM; rw [← (srtS_spec hs).2]; exact h
theorem TO.sortSO0 {f e : Nat} {v : Value} {zs ys : List ByteArray} {fo x : Operand} {ts : Array TypeId} (k : Nat) (hf : callB P f = true) (S : SortSs P f) (hs : srtS zs = Option.some ys) (hfo : opv E fo = Option.some (.func (.func f) #[] #[])) (hx : opv E x = Option.some v) (hk : L[k]? = Option.some (OwnS e 1 v (zs.map cS)))
    (h : TO P N B ops rest E (L.set k (OwnS e 1 v (ys.map cS))) Q) : TO P N B ops (⟨Option.none, .call ⟨.value fo, #[x], ts⟩, ty, ps, af, Option.none⟩ :: rest) E L Q :=
  TO.step0 rfl rfl (StepW.call («as» := [x]) (vs := [v]) (R := fun u M => u = .tuple #[] ∧ M = L.set k (OwnS e 1 v ((sortedS zs).map cS))) hf hfo (by simp [opvs, hx]) (by simp) fun w s => SortSs.call S (srtS_spec hs).1 hk w s) fun u M ⟨hu, hM⟩ => by subst hM; rw [← (srtS_spec hs).2]; exact h
theorem TO.mdelF0 {κ ν : Type} {kf : κ → Value} {vf : ν → Value} {m : κ → Option ν} [DecidableEq κ] {t ke e r : Nat} {x y : Operand} {k : κ} {ts : Array TypeId} (kk : Nat) (hts : ts[0]? = Option.some t) (ht : mapGB P t ke e = true) (hK : KeyOk P ke kf) (hx : opv E x = Option.some (.map (Option.some r))) (hk : L[kk]? = Option.some (MF kf vf r m)) (hy : opv E y = Option.some (kf k))
    (h : TO P N B ops rest E (L.set kk (MF kf vf r (mdel m k))) Q) : TO P N B ops (⟨Option.none, .call ⟨.builtin .delete, #[x, y], ts⟩, ty, ps, af, Option.none⟩ :: rest) E L Q :=
  TO.step0 rfl rfl (StepW.mdelF hts ht hK hx hk hy) fun u L' ⟨hu, hL⟩ => by subst hL; exact h
theorem FRet.cell2r {fn : Func} {a : Act} {w : World} {R : Ending → World → Prop} (e : EnvOk N E a) (s : St B L w) {t ty n b bt u : Nat} {x : Value} {cs : List Value} (hrs : fn.results = #[.tmp u, .cell t ty]) (hv : lk E t = some (.pointer (some ⟨b, 0, none⟩))) (hx : lk E u = some x)
    (en : Ent L (Bx b bt cs)) (ht : aggB P ty n = true) (hn : cs.length = n) (hR : R (.returned (.tuple #[x, .agg cs.toArray])) w) : FRet P fn R a w := by
  rw [FRet.eq]
  refine ⟨e.defers, .tuple #[a.tmps.getD u undef, .agg cs.toArray], ?_, by rw [e.getD hx]; exact hR⟩
  have h1 := run_loadVarB en s ht hn
  simp [results, hrs, e.env _ _ hv, asAddr, h1]
/-- Sorting hangs on no order. -/
theorem sortedS_perm {zs zs' : List ByteArray} (h : zs.Perm zs') : sortedS zs = sortedS zs' := by
  unfold sortedS
  refine congrArg _ ?_
  have tr : ∀ a b c : List UInt8, decide (a ≤ b) = true → decide (b ≤ c) = true → decide (a ≤ c) = true := fun a b c h1 h2 => by simp only [decide_eq_true_eq] at *; exact List.le_trans h1 h2
  have to : ∀ a b : List UInt8, (decide (a ≤ b) || decide (b ≤ a)) = true := fun a b => by simp only [Bool.or_eq_true, decide_eq_true_eq]; exact List.le_total a b
  refine List.Perm.eq_of_pairwise (le := fun a b => decide (a ≤ b) = true) (fun a b _ _ h1 h2 => ?_) (List.pairwise_mergeSort tr to _) (List.pairwise_mergeSort tr to _) (((List.mergeSort_perm _ _).trans (h.map bl)).trans (List.mergeSort_perm _ _).symm)
  simp only [decide_eq_true_eq] at h1 h2
  exact List.le_antisymm h1 h2
end Go.Bk
