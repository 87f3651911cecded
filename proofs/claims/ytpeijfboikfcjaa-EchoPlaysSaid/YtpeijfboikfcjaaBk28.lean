import Derived.Test.YtpeijfboikfcjaaBk27
import Derived.Shelf.Sort.Plain
import Derived.Shelf.Slices.In.SortNone
/-
  slices.Sort of a slice of numbers that is the call's own, by the kit's contract.
-/
namespace Go.Bk
open Go Go.Sort
set_option linter.unusedVariables false
def sorted (zs : List Int) : List Int := zs.mergeSort fun x y => decide (x ≤ y)
theorem sorted_len (zs : List Int) : (sorted zs).length = zs.length := List.length_mergeSort zs
theorem flat_cI : ∀ (zs : List Int), (zs.map cI).flatten = zs.map I
  | [] => rfl
  | z :: zs => by rw [List.map_cons, List.flatten_cons, flat_cI zs]; rfl
theorem Sub.grow {h : PH} {w : World} (os : Array Obj) (s : Sub h (hw w)) : Sub h (hw (Go.Sort.grow w os)) := fun b o e => by
  have h1 := s b o e
  unfold hw at h1 ⊢
  show (w.heap ++ os)[b]? = some o
  have hlt := (Array.getElem?_eq_some_iff.1 h1).1
  rw [Array.getElem?_append_left hlt]; exact h1
theorem hw_putRow {w : World} {g og : Nat} {d : Array Int} {cur : Array Value} {e : TypeId} {fz : Nat × Nat} (h : hw w g = some (.cells cur e fz)) (n : Nat) :
    hw (putRow (Value.int .i64) (Go.Sort.ahead w n) g og d) = put (hw w) g (.cells (putCells (Value.int .i64) og d cur) e fz) := by
  funext c
  unfold hw at h
  show (w.heap.modify g (onCells (putCells (Value.int .i64) og d)))[c]? = _
  rw [Array.getElem?_modify]
  by_cases hc : g = c
  · subst hc; rw [if_pos rfl, h, put_same]; rfl
  · rw [if_neg hc, put_ne _ _ (fun q => hc q.symm)]; rfl
theorem seg_sorted {og : Nat} {zs : List Int} {cur : Array Value} (hsz : og + zs.length ≤ cur.size) : ((putCells (Value.int .i64) og zs.toArray cur).toList.drop og).take zs.length = zs.map I := by
  apply List.ext_getElem?
  intro j
  rw [List.getElem?_take, List.getElem?_map]
  by_cases hj : j < zs.length
  · rw [if_pos hj, List.getElem?_drop, List.getElem?_eq_getElem hj]
    have h1 : og + j < cur.size := by omega
    unfold putCells
    rw [Array.getElem?_toList, Array.getElem?_mapIdx, Array.getElem?_eq_getElem h1]
    have h2 : og ≤ og + j ∧ og + j < og + zs.toArray.size := by simp; omega
    simp only [Option.map_some, if_pos h2, Nat.add_sub_cancel_left]
    rw [getElem!_pos _ j (by simpa using hj)]
    simp
  · rw [if_neg hj, List.getElem?_eq_none (by omega)]; rfl
variable {P : Program} {N : Nat} {B : World} {E : Env} {L : List HP}
theorem St.putRow {w : World} {k e g og cap : Nat} {zs zs' : List Int} (s : St B L w) (hk : L[k]? = some (OwnS e 1 (.slice (some ⟨g, og, none⟩) zs.length cap) (zs.map cI))) (hne : zs ≠ []) (hl : zs'.length = zs.length) (n : Nat) (os : Array Obj) :
    St B (L.set k (OwnS e 1 (.slice (some ⟨g, og, none⟩) zs.length cap) (zs'.map cI))) (Go.Sort.grow (Go.Sort.putRow (Value.int .i64) (Go.Sort.ahead w n) g og zs'.toArray) os) := by
  obtain ⟨hA, sA, hlA, hr⟩ := s.get (Ent.at k hk)
  rcases hr with ⟨_, hn⟩ | ⟨g', o', cap', cur, he, hc, hm, hg, hsize, htk⟩
  · exact absurd (by simpa using hn) hne
  · simp only [List.length_map] at hc htk he
    cases he
    have hgw := sA g _ hg
    refine ⟨⟨s.os.1, s.os.2.ahead n⟩, s.tape, s.output, ?_⟩
    refine Sat.mono (Sub.grow os (Sub.refl _)) ?_
    rw [hw_putRow hgw n]
    refine (Sat.upd k hk s.sat fun g1 s1 ho => ⟨?_, fun c hc => ?_, .inr ⟨g, og, cap, _, by rw [List.length_map, hl], by rw [List.length_map, hl]; exact hc, hm, put_same _ _ _, ?_, ?_⟩⟩).1
    · rcases ho.2 with ⟨_, hnl⟩ | ⟨g', og', cap'', cur', he, _, _, hg', _⟩
      · exact absurd (by simpa using hnl) hne
      · simp only [List.length_map] at he; cases he; rw [hg']; simp
    · obtain ⟨y, _, rfl⟩ := List.mem_map.1 hc; rfl
    · unfold putCells; simp; omega
    · rw [List.length_map, Nat.mul_one, seg_sorted (by omega), flat_cI]
/-- What is known of the program's own sort. -/
structure Sorts (P : Program) (k : Nat) : Prop where
  some : ∀ (blk off cap : Nat) (zs : List Int) (w : World), Holds (Value.int .i64) w blk off zs.toArray → blk < w.heap.size → zs.length < 4611686018427387904 →
    Calls P k #[.slice (some ⟨blk, off, none⟩) zs.length cap] w fun e w' => e = .returned (.tuple #[]) ∧ ∃ n os, w' = Go.Sort.grow (Go.Sort.putRow (Value.int .i64) (Go.Sort.ahead w n) blk off (sorted zs).toArray) os
  none : ∀ (p : Option Addr) (cap : Nat) (w : World), Calls P k #[.slice p 0 cap] w fun e w' => e = .returned (.tuple #[]) ∧ w' = w
open Go.Shelf Go.Proofs in
theorem Sorts.of {ρ : Ren} (Ly : Lays.n189 P ρ) : Sorts P (ρ.f 189) := ⟨Any.slices_Sort_int Ly, Any.slices_Sort_int_none Ly⟩
theorem OwnS.holds {w : World} {e g og cap : Nat} {zs : List Int} (hc : zs.length ≤ cap) {cur : Array Value} (hg : hw w g = some (.cells cur e (0, 0))) (hsize : og + cap * 1 ≤ cur.size) (htk : (cur.toList.drop og).take (zs.length * 1) = (zs.map cI).flatten) : Holds (Value.int .i64) w g og zs.toArray := by
  intro j hj
  simp at hj
  have h1 : og + j < cur.size := by omega
  have h2 : cur[og + j]? = some (I zs[j]) := by
    have h3 : ((cur.toList.drop og).take (zs.length * 1))[j]? = some (I zs[j]) := by rw [htk, flat_cI, List.getElem?_map, List.getElem?_eq_getElem hj]; rfl
    rw [List.getElem?_take, if_pos (by omega), List.getElem?_drop] at h3
    simpa using h3
  unfold hw at hg
  have h4 : zs.toArray[j]! = zs[j] := by rw [getElem!_pos _ j (by simpa using hj)]; simp
  rw [h4]
  constructor
  · simp [World.cell?, hg, h2, I]
  · simp [World.frozen?, hg]
/-- the model of slices.Sort -/
def srt (zs : List Int) : Option (List Int) := if zs.length < 4611686018427387904 then some (sorted zs) else none
theorem srt_spec {zs ys : List Int} (h : srt zs = some ys) : zs.length < 4611686018427387904 ∧ ys = sorted zs := by
  unfold srt at h
  split at h
  · exact ⟨by assumption, (Option.some.inj h).symm⟩
  · cases h
theorem Sorts.call {f e k : Nat} {v : Value} {zs : List Int} (S : Sorts P f) (hml : zs.length < 4611686018427387904) (hk : L[k]? = Option.some (OwnS e 1 v (zs.map cI))) (w : World) (s : St B L w) :
    Calls P f #[v] w (fun e' w' => ∃ u M, e' = .returned u ∧ (u = .tuple #[] ∧ M = L.set k (OwnS e 1 v ((sorted zs).map cI))) ∧ St B M w') := by
  obtain ⟨hA, sA, hlA, hr⟩ := s.get (Ent.at k hk)
  by_cases hne : zs = []
  · subst hne
    have hs : sorted [] = [] := by simp [sorted]
    have hL : L.set k (OwnS e 1 v ((sorted []).map cI)) = L := by rw [hs]; exact set_same hk
    have hv : ∃ p cap, v = .slice p 0 cap := by
      rcases hr with ⟨⟨a, rfl⟩, _⟩ | ⟨g, og, cap, cur, rfl, _⟩
      · exact ⟨a, 0, rfl⟩
      · exact ⟨_, cap, rfl⟩
    obtain ⟨p, cap, rfl⟩ := hv
    refine (S.none p cap w).mono ?_
    rintro e' w' ⟨rfl, rfl⟩
    exact ⟨_, _, rfl, ⟨rfl, rfl⟩, by rw [hL]; exact s⟩
  · rcases hr with ⟨_, hn⟩ | ⟨g, og, cap, cur, rfl, hc, hm, hg, hsize, htk⟩
    · exact absurd (by simpa using hn) hne
    · simp only [List.length_map] at hc htk hk ⊢
      have hgw := sA g _ hg
      have hlt : g < w.heap.size := (Array.getElem?_eq_some_iff.1 (show w.heap[g]? = _ from hgw)).1
      refine (S.some g og cap zs w (OwnS.holds hc hgw hsize htk) hlt hml).mono ?_
      rintro e' w' ⟨rfl, n, os, rfl⟩
      exact ⟨_, _, rfl, ⟨rfl, rfl⟩, St.putRow s hk hne (sorted_len zs) n os⟩
variable {ops : Array Oper} {rest : List Oper} {Q : Act → World → Prop} {d : Nat} {ty : TypeId} {ps : String} {af : Array Edge}
/-- slices.Sort(s) -/
theorem TO.sortO {f e : Nat} {v : Value} {zs ys : List Int} {fo x : Operand} {ts : Array TypeId} (k : Nat) (hf : callB P f = true) (S : Sorts P f) (hs : srt zs = Option.some ys) (hfo : opv E fo = Option.some (.func (.func f) #[] #[])) (hx : opv E x = Option.some v) (hk : L[k]? = Option.some (OwnS e 1 v (zs.map cI))) (hd : Nat.blt d N = true)
    (h : TO P N B ops rest ((d, .tuple #[]) :: E) (L.set k (OwnS e 1 v (ys.map cI))) Q) : TO P N B ops (⟨Option.some d, .call ⟨.value fo, #[x], ts⟩, ty, ps, af, Option.none⟩ :: rest) E L Q :=
  TO.step rfl rfl hd (StepW.call («as» := [x]) (vs := [v]) (R := fun u M => u = .tuple #[] ∧ M = L.set k (OwnS e 1 v ((sorted zs).map cI))) hf hfo (by simp [opvs, hx]) (by simp) fun w s => Sorts.call S (srt_spec hs).1 hk w s) fun u M ⟨hu, hM⟩ => by subst hu; subst hM; rw [← (srt_spec hs).2]; exact h
theorem TO.sortO0 {f e : Nat} {v : Value} {zs ys : List Int} {fo x : Operand} {ts : Array TypeId} (k : Nat) (hf : callB P f = true) (S : Sorts P f) (hs : srt zs = Option.some ys) (hfo : opv E fo = Option.some (.func (.func f) #[] #[])) (hx : opv E x = Option.some v) (hk : L[k]? = Option.some (OwnS e 1 v (zs.map cI)))
    (h : TO P N B ops rest E (L.set k (OwnS e 1 v (ys.map cI))) Q) : TO P N B ops (⟨Option.none, .call ⟨.value fo, #[x], ts⟩, ty, ps, af, Option.none⟩ :: rest) E L Q :=
  TO.step0 rfl rfl (StepW.call («as» := [x]) (vs := [v]) (R := fun u M => u = .tuple #[] ∧ M = L.set k (OwnS e 1 v ((sorted zs).map cI))) hf hfo (by simp [opvs, hx]) (by simp) fun w s => Sorts.call S (srt_spec hs).1 hk w s) fun u M ⟨hu, hM⟩ => by subst hM; rw [← (srt_spec hs).2]; exact h
end Go.Bk
