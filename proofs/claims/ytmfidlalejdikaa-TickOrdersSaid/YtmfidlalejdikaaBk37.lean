import Derived.Test.YtmfidlalejdikaaBk28
import Derived.Test.YtmfidlalejdikaaBk36
import Derived.Test.YtmfidlalejdikaaBk6
import Derived.Shelf.SlSortCmp.Whole1
/-
  slices.SortFunc of a slice of numbers that is the call's own, by the kit's contract.
-/
namespace Go.Bk
open Go Go.Sort Go.Shelf Go.Proofs
set_option linter.unusedVariables false
/-- What is known of the program's own sort by a function. -/
structure SortFs (P : Program) (k : Nat) : Prop where
  some : ∀ {α : Type} [Inhabited α] (enc : α → Value) (h1 : OneCell enc) (cf : α → α → Int) (hO : SWO (ltOf cf)) (g : Nat) (cb : Array Value) (blk off cap : Nat) (d : Array α) (w : World),
    (∀ args w, (callFunc g args).run P w = .ok (.enter g args) w) → CmpLays1 P g cb enc cf blk off d.size w → Holds enc w blk off d → blk < w.heap.size → d.size < 4611686018427387904 → (∀ x y, (ltOf cf) x y = false → (ltOf cf) y x = false → x = y) →
    Calls P k #[.slice (some ⟨blk, off, none⟩) d.size cap, .func (.func g) #[] cb] w fun e w' => e = .returned (.tuple #[]) ∧ ∃ n os, w' = sortWorld enc w blk off n (d.toList.mergeSort fun x y => !(ltOf cf) y x).toArray os
  none : ∀ (p : Option Addr) (cap : Nat) (fv : Value) (w : World), Calls P k #[.slice p 0 cap, fv] w fun e w' => e = .returned (.tuple #[]) ∧ w' = w


/-- How two of a list compare. -/
def cmpOf (f : Int × Int → Option Int) (zs : List Int) (x y : { x : Int // x ∈ zs }) : Int := (f (x.1, y.1)).getD 0
structure Sortable (f : Int × Int → Option Int) (zs : List Int) : Prop where
  len : zs.length < 4611686018427387904
  tot : ∀ x ∈ zs, ∀ y ∈ zs, ∃ r, f (x, y) = some r
  swo : SWO (ltOf (cmpOf f zs))
  anti : ∀ x y, (ltOf (cmpOf f zs)) x y = false → (ltOf (cmpOf f zs)) y x = false → x = y
def sortedF (f : Int × Int → Option Int) (zs : List Int) : List Int := (zs.attach.mergeSort fun x y => !(ltOf (cmpOf f zs)) y x).map (·.1)
open Classical in
/-- the model of slices.SortFunc -/
noncomputable def srtF (f : Int × Int → Option Int) (zs : List Int) : Option (List Int) := if Sortable f zs then some (sortedF f zs) else none
theorem srtF_spec {f : Int × Int → Option Int} {zs ys : List Int} (h : srtF f zs = some ys) : Sortable f zs ∧ ys = sortedF f zs := by
  unfold srtF at h
  split at h
  · exact ⟨by assumption, (Option.some.inj h).symm⟩
  · cases h
theorem sortedF_len (f : Int × Int → Option Int) (zs : List Int) : (sortedF f zs).length = zs.length := by
  unfold sortedF; rw [List.length_map, List.length_mergeSort, List.length_attach]

def encS (zs : List Int) (x : { x : Int // x ∈ zs }) : Value := I x.1
theorem putCells_sub {zs : List Int} [Inhabited { x : Int // x ∈ zs }] (off : Nat) (d : List { x : Int // x ∈ zs }) (c : Array Value) : putCells (encS zs) off d.toArray c = putCells (Value.int .i64) off (d.map (·.1)).toArray c := by
  unfold putCells
  apply Array.ext_getElem?
  intro j
  rw [Array.getElem?_mapIdx, Array.getElem?_mapIdx]
  cases c[j]? with
  | none => rfl
  | some x =>
    simp only [Option.map_some, List.size_toArray, List.length_map]
    by_cases h : off ≤ j ∧ j < off + d.length
    · rw [if_pos h, if_pos h]
      have hj : j - off < d.length := by omega
      rw [getElem!_pos _ (j - off) (by simpa using hj), getElem!_pos _ (j - off) (by simpa using hj)]
      simp [encS, I]
    · rw [if_neg h, if_neg h]
theorem sortWorld_sub {zs : List Int} [Inhabited { x : Int // x ∈ zs }] (w : World) (blk off n : Nat) (d : List { x : Int // x ∈ zs }) (os : Array Obj) :
    sortWorld (encS zs) w blk off n d.toArray os = Go.Sort.grow (Go.Sort.putRow (Value.int .i64) (Go.Sort.ahead w n) blk off (d.map (·.1)).toArray) os := by
  unfold sortWorld putRow
  have : putCells (encS zs) off d.toArray = putCells (Value.int .i64) off (d.map (·.1)).toArray := funext fun c => putCells_sub off d c
  rw [this]
theorem world_grown {W w' : World} (h : St W [Was W] w') : ∃ q os, w' = Go.Sort.grow (W.drewN q) os := by
  have hb := h.below
  refine ⟨w'.drawn - W.drawn, w'.heap.extract W.heap.size w'.heap.size, ?_⟩
  have hh : w'.heap = W.heap ++ w'.heap.extract W.heap.size w'.heap.size := by
    apply Array.ext_getElem?
    intro j
    rw [Array.getElem?_append]
    have hz := hb.size
    by_cases c : j < W.heap.size
    · rw [if_pos c]; exact hb.block j c
    · rw [if_neg c, Array.getElem?_extract]
      by_cases d : j < w'.heap.size
      · rw [if_pos (by omega)]; congr 1; omega
      · rw [if_neg (by omega), Array.getElem?_eq_none (by omega)]
  have h1 : w'.os = W.os := h.os.1
  have h4 : w'.drawn = W.drawn + (w'.drawn - W.drawn) := by
    have h5 : W.drawn ≤ w'.drawn := h.os.2
    omega
  have h2 := h.tape
  have h3 := h.output
  unfold Go.Sort.grow World.drewN
  simp only [← hh, ← h1, ← h2, ← h3, ← h4]
variable {P : Program} {N : Nat} {B : World} {E : Env} {L : List HP}
theorem Sat.whole {W : World} {A : HP} {M : List HP} (s : Sat M (hw W)) (e : Ent M A) : Ent [Was W] A := fun h ⟨h1, h2, d, s1, s2, a, _⟩ => by
  obtain ⟨g, sg, ag⟩ := e (hw W) s
  refine ⟨g, sg.trans (Sub.trans ?_ s1), ag⟩
  intro b o hb
  have hlt : b < W.heap.size := (Array.getElem?_eq_some_iff.1 (show W.heap[b]? = some o from hb)).1
  rw [a b hlt]; exact hb
theorem SortFs.call {f e k g : Nat} {cb : Array Value} {v : Value} {zs : List Int} {cf : Int × Int → Option Int} (S : SortFs P f) (ho : Sortable cf zs) (hg : callB P g = true) (hk : L[k]? = Option.some (OwnS e 1 v (zs.map cI)))
    (hc : ∀ (B' : World) (L' : List HP), (∀ A, Ent (L.eraseIdx k) A → Ent L' A) → ∀ (x y r : Int), cf (x, y) = Option.some r → ∀ w, St B' L' w → Calls P g (#[I x, I y] ++ cb) w (fun e w' => e = .returned (I r) ∧ St B' L' w')) (w : World) (s : St B L w) :
    Calls P f #[v, .func (.func g) #[] cb] w (fun e' w' => ∃ u M, e' = .returned u ∧ (u = .tuple #[] ∧ M = L.set k (OwnS e 1 v ((sortedF cf zs).map cI))) ∧ St B M w') := by
  obtain ⟨hA, sA, hlA, hr⟩ := s.get (Ent.at k hk)
  by_cases hne : zs = []
  · subst hne
    have hs : sortedF cf [] = [] := by simp [sortedF]
    have hL : L.set k (OwnS e 1 v ((sortedF cf []).map cI)) = L := by rw [hs]; exact set_same hk
    have hv : ∃ p cap, v = .slice p 0 cap := by
      rcases hr with ⟨⟨a, rfl⟩, _⟩ | ⟨g, og, cap, cur, rfl, _⟩
      · exact ⟨a, 0, rfl⟩
      · exact ⟨_, cap, rfl⟩
    obtain ⟨p, cap, rfl⟩ := hv
    refine (S.none p cap _ w).mono ?_
    rintro e' w' ⟨rfl, rfl⟩
    exact ⟨_, _, rfl, ⟨rfl, rfl⟩, by rw [hL]; exact s⟩
  · rcases hr with ⟨_, hn⟩ | ⟨b, og, cap, cur, rfl, hcp, hm, hgb, hsize, htk⟩
    · exact absurd (by simpa using hn) hne
    · simp only [List.length_map] at hcp htk hk ⊢
      have hgw := sA b _ hgb
      have hlt : b < w.heap.size := (Array.getElem?_eq_some_iff.1 (show w.heap[b]? = _ from hgw)).1
      obtain ⟨z0, zr, hz0⟩ : ∃ z0 zr, zs = z0 :: zr := by
        cases zs with
        | nil => exact absurd rfl hne
        | cons a r => exact ⟨a, r, rfl⟩
      have inh : Inhabited { x : Int // x ∈ zs } := ⟨⟨z0, by rw [hz0]; simp⟩⟩
      have hH0 := OwnS.holds hcp hgw hsize htk
      have hH : Holds (encS zs) w b og zs.attach.toArray := fun j hj => by
        have hj' : j < zs.length := by simpa using hj
        have := hH0 j (by simpa using hj')
        rw [getElem!_pos _ j (by simpa using hj')] at this
        rw [getElem!_pos _ j (by simpa using hj')]
        simpa [encS, I] using this
      have eg : ∀ args w, (callFunc g args).run P w = .ok (.enter g args) w := fun args w => by
        unfold callB at hg
        cases x : P.funcs[g]? with
        | none => rw [x] at hg; cases hg
        | some fn =>
          rw [x] at hg
          simp only [Bool.and_eq_true] at hg
          have hb : ¬ fn.body = Option.none := by intro y; rw [y] at hg; cases hg.1
          have hn : ¬ fn.name = "runtime.NumGoroutine" := by simpa using hg.2
          simp [callFunc, x, hb, hn]
      have hcmp : Go.Proofs.CmpLays1 P g cb (encS zs) (cmpOf cf zs) b og zs.attach.toArray.size w := fun m os dk hdk x y => by
        have hsz : dk.size = zs.length := by rw [hdk]; simp
        have ew : sortWorld (encS zs) w b og m dk os = Go.Sort.grow (Go.Sort.putRow (Value.int .i64) (Go.Sort.ahead w m) b og (dk.toList.map (·.1)).toArray) os := by
          have := sortWorld_sub w b og m dk.toList os
          simpa using this
        rw [ew]
        have s2 := St.putRow (zs' := dk.toList.map (·.1)) s hk hne (by simp [hsz]) m os
        generalize Go.Sort.grow (Go.Sort.putRow (Value.int .i64) (Go.Sort.ahead w m) b og (dk.toList.map (·.1)).toArray) os = W at s2
        have s3 : Sat (L.eraseIdx k) (hw W) := by
          have := Sat.erase k s2.sat
          rwa [List.eraseIdx_set_eq] at this
        obtain ⟨r, hr⟩ := ho.tot x.1 x.2 y.1 y.2
        refine (hc W [Was W] (fun A hA => Sat.whole s3 hA) x.1 y.1 r hr W (St.start W)).mono ?_
        rintro e' w' ⟨rfl, hs'⟩
        refine ⟨?_, world_grown hs'⟩
        unfold cmpOf; rw [hr]; rfl
      have := S.some (encS zs) (fun x => rfl) (cmpOf cf zs) ho.swo g cb b og cap zs.attach.toArray w eg hcmp hH hlt (by simpa using ho.len) ho.anti
      have hsz : zs.attach.toArray.size = zs.length := by simp
      rw [hsz] at this
      refine this.mono ?_
      rintro e' w' ⟨rfl, n, os, rfl⟩
      rw [sortWorld_sub]
      exact ⟨_, _, rfl, ⟨rfl, rfl⟩, St.putRow s hk hne (sortedF_len cf zs) n os⟩
variable {ops : Array Oper} {rest : List Oper} {Q : Act → World → Prop} {d : Nat} {ty : TypeId} {ps : String} {af : Array Edge}
/-- slices.SortFunc(s, cmp) -/
theorem TO.sortFO {f e g : Nat} {cb : Array Value} {v : Value} {zs ys : List Int} {fo x y : Operand} {ts : Array TypeId} (k : Nat) (cf : Int × Int → Option Int) (hf : callB P f = true) (S : SortFs P f) (hs : srtF cf zs = Option.some ys) (hg : callB P g = true)
    (hfo : opv E fo = Option.some (.func (.func f) #[] #[])) (hx : opv E x = Option.some v) (hy : opv E y = Option.some (.func (.func g) #[] cb)) (hk : L[k]? = Option.some (OwnS e 1 v (zs.map cI)))
    (hc : ∀ (B' : World) (L' : List HP), (∀ A, Ent (L.eraseIdx k) A → Ent L' A) → ∀ (x y r : Int), cf (x, y) = Option.some r → ∀ w, St B' L' w → Calls P g (#[I x, I y] ++ cb) w (fun e w' => e = .returned (I r) ∧ St B' L' w')) (hd : Nat.blt d N = true)
    (h : TO P N B ops rest ((d, .tuple #[]) :: E) (L.set k (OwnS e 1 v (ys.map cI))) Q) : TO P N B ops (⟨Option.some d, .call ⟨.value fo, #[x, y], ts⟩, ty, ps, af, Option.none⟩ :: rest) E L Q :=
  TO.step rfl rfl hd (StepW.call («as» := [x, y]) (vs := [v, .func (.func g) #[] cb]) (al := #[v, .func (.func g) #[] cb]) (R := fun u M => u = .tuple #[] ∧ M = L.set k (OwnS e 1 v ((sortedF cf zs).map cI))) hf hfo (by simp [opvs, hx, hy]) (by simp) fun w s => SortFs.call S (srtF_spec hs).1 hg hk hc w s) fun u M ⟨hu, hM⟩ => by subst hu; subst hM; rw [← (srtF_spec hs).2]; exact h
theorem TO.sortFO0 {f e g : Nat} {cb : Array Value} {v : Value} {zs ys : List Int} {fo x y : Operand} {ts : Array TypeId} (k : Nat) (cf : Int × Int → Option Int) (hf : callB P f = true) (S : SortFs P f) (hs : srtF cf zs = Option.some ys) (hg : callB P g = true)
    (hfo : opv E fo = Option.some (.func (.func f) #[] #[])) (hx : opv E x = Option.some v) (hy : opv E y = Option.some (.func (.func g) #[] cb)) (hk : L[k]? = Option.some (OwnS e 1 v (zs.map cI)))
    (hc : ∀ (B' : World) (L' : List HP), (∀ A, Ent (L.eraseIdx k) A → Ent L' A) → ∀ (x y r : Int), cf (x, y) = Option.some r → ∀ w, St B' L' w → Calls P g (#[I x, I y] ++ cb) w (fun e w' => e = .returned (I r) ∧ St B' L' w'))
    (h : TO P N B ops rest E (L.set k (OwnS e 1 v (ys.map cI))) Q) : TO P N B ops (⟨Option.none, .call ⟨.value fo, #[x, y], ts⟩, ty, ps, af, Option.none⟩ :: rest) E L Q :=
  TO.step0 rfl rfl (StepW.call («as» := [x, y]) (vs := [v, .func (.func g) #[] cb]) (al := #[v, .func (.func g) #[] cb]) (R := fun u M => u = .tuple #[] ∧ M = L.set k (OwnS e 1 v ((sortedF cf zs).map cI))) hf hfo (by simp [opvs, hx, hy]) (by simp) fun w s => SortFs.call S (srtF_spec hs).1 hg hk hc w s) fun u M ⟨hu, hM⟩ => by subst hM; rw [← (srtF_spec hs).2]; exact h
end Go.Bk
