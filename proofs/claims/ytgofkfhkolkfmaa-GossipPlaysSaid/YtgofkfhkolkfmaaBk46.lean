import Derived.Test.YtgofkfhkolkfmaaBk45
import Derived.Test.YtgofkfhkolkfmaaBk6
import Derived.Shelf.SlSortCmp.WholeK
import Derived.Shelf.Spec.SlicesGrow
/-
  slices.SortFunc of a slice of structs that is the call's own, and slices.Grow of nil, by the kit's contracts.
-/
namespace Go.Bk
open Go Go.Sort Go.Shelf Go.Proofs
set_option linter.unusedVariables false
set_option linter.unusedSimpArgs false
/-- What is known of the program's own sort by a function, at elements of sz cells. -/
structure SortKs (P : Program) (sz k : Nat) : Prop where
  some : ∀ {α : Type} [Inhabited α] (enc : α → List Value) (hl : ∀ x, (enc x).length = sz) (h1 : ∀ x, ∀ v ∈ enc x, v.oneCell' = true) (cf : α → α → Int) (hO : SWO (ltOf cf)) (g : Nat) (cb : Array Value) (blk off cap : Nat) (d : Array α) (w : World),
    (∀ args w, (callFunc g args).run P w = .ok (.enter g args) w) → CmpLays P g cb enc sz cf blk off d.size w → HoldsK enc sz w blk off d → blk < w.heap.size → d.size < 4611686018427387904 → (∀ x y, (ltOf cf) x y = false → (ltOf cf) y x = false → x = y) →
    Calls P k #[.slice (some ⟨blk, off, none⟩) d.size cap, .func (.func g) #[] cb] w fun e w' => e = .returned (.tuple #[]) ∧ ∃ n os, w' = sortWorldK enc sz w blk off n (d.toList.mergeSort fun x y => !(ltOf cf) y x).toArray os
  none : ∀ (p : Option Addr) (cap : Nat) (fv : Value) (w : World), Calls P k #[.slice p 0 cap, fv] w fun e w' => e = .returned (.tuple #[]) ∧ w' = w

section
variable {α : Type}
/-- How two of a list compare. -/
def cmpOfK (f : α × α → Option Int) (zs : List α) (x y : { x : α // x ∈ zs }) : Int := (f (x.1, y.1)).getD 0
structure SortableK (f : α × α → Option Int) (zs : List α) : Prop where
  len : zs.length < 4611686018427387904
  tot : ∀ x ∈ zs, ∀ y ∈ zs, ∃ r, f (x, y) = some r
  swo : SWO (ltOf (cmpOfK f zs))
  anti : ∀ x y, (ltOf (cmpOfK f zs)) x y = false → (ltOf (cmpOfK f zs)) y x = false → x = y
def sortedK (f : α × α → Option Int) (zs : List α) : List α := (zs.attach.mergeSort fun x y => !(ltOf (cmpOfK f zs)) y x).map (·.1)
open Classical in
/-- the model of slices.SortFunc -/
noncomputable def srtK (f : α × α → Option Int) (zs : List α) : Option (List α) := if SortableK f zs then some (sortedK f zs) else none
theorem srtK_spec {f : α × α → Option Int} {zs ys : List α} (h : srtK f zs = some ys) : SortableK f zs ∧ ys = sortedK f zs := by
  unfold srtK at h
  split at h
  · exact ⟨by assumption, (Option.some.inj h).symm⟩
  · cases h
theorem sortedK_len (f : α × α → Option Int) (zs : List α) : (sortedK f zs).length = zs.length := by
  unfold sortedK; rw [List.length_map, List.length_mergeSort, List.length_attach]
theorem flatK_eq [Inhabited α] (enc : α → List Value) (k : Nat) (hk : ∀ x, (enc x).length = k) (d : Array α) : flatK enc k d = ((d.toList.map enc).flatten).toArray := by
  have hall : ∀ c ∈ d.toList.map enc, c.length = k := fun c hc => by obtain ⟨x, _, rfl⟩ := List.mem_map.1 hc; exact hk x
  have hlen : ((d.toList.map enc).flatten).length = d.size * k := by rw [flat_len hall]; simp
  refine ext_get! (by simp only [size_flatK, List.size_toArray, hlen]) fun t ht => ?_
  have ht' : t < d.size * k := by simpa using ht
  have k0 : 0 < k := by
    rcases Nat.eq_zero_or_pos k with h | h
    · subst h; simp at ht'
    · exact h
  have hq : t / k < d.size := by rw [Nat.div_lt_iff_lt_mul k0]; exact ht'
  have hm : t % k < k := Nat.mod_lt _ k0
  have e1 : d[t / k]! = d[t / k] := getElem!_pos d _ hq
  have h1 : (d.toList.map enc)[t / k]? = some (enc d[t / k]!) := by
    rw [List.getElem?_map, Array.getElem?_toList, Array.getElem?_eq_getElem hq, e1]; rfl
  have hl : t % k < (enc d[t / k]!).length := by rw [hk]; exact hm
  have h2 : (enc d[t / k]!)[t % k]? = Option.some ((enc d[t / k]!)[t % k]!) := by
    rw [List.getElem?_eq_getElem hl, getElem!_pos (enc d[t / k]!) (t % k) hl]
  have h3 := flat_get hall (t / k) _ (t % k) _ h1 h2
  rw [show t / k * k + t % k = t by rw [Nat.mul_comm]; exact Nat.div_add_mod t k] at h3
  rw [get_flatK _ _ _ _ ht']
  have hlt : t < ((d.toList.map enc).flatten).toArray.size := by simp only [List.size_toArray, hlen]; exact ht'
  rw [getElem!_pos ((d.toList.map enc).flatten).toArray t hlt]
  have := List.getElem?_eq_some_iff.1 h3
  obtain ⟨_, h4⟩ := this
  simpa using h4.symm
theorem hw_putRowV {w : World} {g og : Nat} {d : Array Value} {cur : Array Value} {e : TypeId} {fz : Nat × Nat} (h : hw w g = some (.cells cur e fz)) (n : Nat) :
    hw (putRow id (Go.Sort.ahead w n) g og d) = put (hw w) g (.cells (putCells id og d cur) e fz) := by
  funext c
  unfold hw at h
  show (w.heap.modify g (onCells (putCells id og d)))[c]? = _
  rw [Array.getElem?_modify]
  by_cases hc : g = c
  · subst hc; rw [if_pos rfl, h, put_same]; rfl
  · rw [if_neg hc, put_ne _ _ (fun q => hc q.symm)]; rfl
theorem segV {og : Nat} {zs : List Value} {cur : Array Value} (hsz : og + zs.length ≤ cur.size) : ((putCells id og zs.toArray cur).toList.drop og).take zs.length = zs := by
  apply List.ext_getElem?
  intro j
  rw [List.getElem?_take]
  by_cases hj : j < zs.length
  · rw [if_pos hj, List.getElem?_drop, List.getElem?_eq_getElem hj]
    have h1 : og + j < cur.size := by omega
    unfold putCells
    rw [Array.getElem?_toList, Array.getElem?_mapIdx, Array.getElem?_eq_getElem h1]
    have h2 : og ≤ og + j ∧ og + j < og + zs.toArray.size := by simp; omega
    simp only [Option.map_some, if_pos h2, Nat.add_sub_cancel_left]
    rw [getElem!_pos _ j (by simpa using hj)]
    simp
  · rw [if_neg hj, List.getElem?_eq_none (by omega)]
end
variable {P : Program} {N : Nat} {B : World} {E : Env} {L : List HP}
theorem Sub.growV {h : PH} {w : World} (os : Array Obj) (s : Sub h (hw w)) : Sub h (hw (Go.Sort.grow w os)) := fun b o e => by
  have h1 := s b o e
  unfold hw at h1 ⊢
  show (w.heap ++ os)[b]? = some o
  have hlt := (Array.getElem?_eq_some_iff.1 h1).1
  rw [Array.getElem?_append_left hlt]; exact h1
theorem St.putRowV {w : World} {k e sz g og cap : Nat} {css css' : List (List Value)} (s : St B L w) (hk : L[k]? = some (OwnS e sz (.slice (some ⟨g, og, none⟩) css.length cap) css)) (hne : css ≠ []) (hl : css'.length = css.length) (hc' : ∀ c ∈ css', c.length = sz) (n : Nat) (os : Array Obj) :
    St B (L.set k (OwnS e sz (.slice (some ⟨g, og, none⟩) css.length cap) css')) (Go.Sort.grow (Go.Sort.putRow id (Go.Sort.ahead w n) g og css'.flatten.toArray) os) := by
  obtain ⟨hA, sA, hlA, hr⟩ := s.get (Ent.at k hk)
  rcases hr with ⟨_, hn⟩ | ⟨g', o', cap', cur, he, hc, hm, hg, hsize, htk⟩
  · exact absurd hn hne
  · cases he
    have hgw := sA g _ hg
    have hfl : css'.flatten.length = css.length * sz := by rw [flat_len hc', hl]
    have hcs : css.length * sz ≤ cap * sz := Nat.mul_le_mul_right _ hc
    refine ⟨⟨s.os.1, s.os.2.ahead n⟩, s.tape, s.output, ?_⟩
    refine Sat.mono (Sub.growV os (Sub.refl _)) ?_
    rw [hw_putRowV hgw n]
    refine (Sat.upd k hk s.sat fun g1 s1 ho => ⟨?_, hc', .inr ⟨g, og, cap, _, by rw [hl], by rw [hl]; exact hc, hm, put_same _ _ _, ?_, ?_⟩⟩).1
    · rcases ho.2 with ⟨_, hnl⟩ | ⟨g', og', cap'', cur', he, _, _, hg', _⟩
      · exact absurd hnl hne
      · cases he; rw [hg']; simp
    · unfold putCells; simp; omega
    · rw [hl, ← hfl]; exact segV (by omega)
theorem OwnS.holdsV {w : World} {e g og cap sz : Nat} {css : List (List Value)} (hall : ∀ c ∈ css, c.length = sz) (hc : css.length ≤ cap) {cur : Array Value} (hg : hw w g = some (.cells cur e (0, 0))) (hsize : og + cap * sz ≤ cur.size) (htk : (cur.toList.drop og).take (css.length * sz) = css.flatten) : Holds id w g og css.flatten.toArray := by
  intro j hj
  have hj' : j < css.flatten.length := by simpa using hj
  have hfl : css.flatten.length = css.length * sz := flat_len hall
  have hcs : css.length * sz ≤ cap * sz := Nat.mul_le_mul_right _ hc
  have h1 : og + j < cur.size := by omega
  have h2 : cur[og + j]? = some css.flatten[j] := by
    have h3 : ((cur.toList.drop og).take (css.length * sz))[j]? = some css.flatten[j] := by rw [htk, List.getElem?_eq_getElem hj']
    rw [List.getElem?_take, if_pos (by omega), List.getElem?_drop] at h3
    simpa using h3
  unfold hw at hg
  have h4 : css.flatten.toArray[j]! = css.flatten[j] := by rw [getElem!_pos _ j (by simpa using hj')]; simp
  rw [h4]
  constructor
  · simp [World.cell?, hg, h2]
  · simp [World.frozen?, hg]
theorem world_grownK {W w' : World} (h : St W [Was W] w') : ∃ q os, w' = Go.Sort.grow (W.drewN q) os := by
  have hb := h.below
  refine ⟨w'.drawn - W.drawn, w'.heap.extract W.heap.size w'.heap.size, ?_⟩
  have hh : w'.heap = W.heap ++ w'.heap.extract W.heap.size w'.heap.size := by
    apply Array.ext_getElem?
    intro j
    rw [Array.getElem?_append]
    have hz := hb.size
    by_cases c : j < W.heap.size
    · rw [if_pos c]; exact hb.block j c
    · rw [if_neg c, Array.getElem?_extract]
      by_cases d : j < w'.heap.size
      · rw [if_pos (by omega)]; congr 1; omega
      · rw [if_neg (by omega), Array.getElem?_eq_none (by omega)]
  have h1 : w'.os = W.os := h.os.1
  have h4 : w'.drawn = W.drawn + (w'.drawn - W.drawn) := by
    have h5 : W.drawn ≤ w'.drawn := h.os.2
    omega
  have h2 := h.tape
  have h3 := h.output
  unfold Go.Sort.grow World.drewN
  simp only [← hh, ← h1, ← h2, ← h3, ← h4]
theorem Sat.wholeK {W : World} {A : HP} {M : List HP} (s : Sat M (hw W)) (e : Ent M A) : Ent [Was W] A := fun h ⟨h1, h2, d, s1, s2, a, _⟩ => by
  obtain ⟨g, sg, ag⟩ := e (hw W) s
  refine ⟨g, sg.trans (Sub.trans ?_ s1), ag⟩
  intro b o hb
  have hlt : b < W.heap.size := (Array.getElem?_eq_some_iff.1 (show W.heap[b]? = some o from hb)).1
  rw [a b hlt]; exact hb
section
variable {α : Type} {f : α → List Value}
theorem SortKs.call {fn e sz k g : Nat} {cb : Array Value} {v : Value} {zs : List α} {cf : α × α → Option Int} (S : SortKs P sz fn) (hf : ∀ x, (f x).length = sz) (h1 : ∀ x, ∀ c ∈ f x, c.oneCell' = true) (ho : SortableK cf zs) (hg : callB P g = true) (hk : L[k]? = Option.some (OwnS e sz v (zs.map f)))
    (hc : ∀ (B' : World) (L' : List HP), (∀ A, Ent (L.eraseIdx k) A → Ent L' A) → ∀ (x y : α) (r : Int), cf (x, y) = Option.some r → ∀ w, St B' L' w → Calls P g (#[.agg (f x).toArray, .agg (f y).toArray] ++ cb) w (fun e w' => e = .returned (I r) ∧ St B' L' w')) (w : World) (s : St B L w) :
    Calls P fn #[v, .func (.func g) #[] cb] w (fun e' w' => ∃ u M, e' = .returned u ∧ (u = .tuple #[] ∧ M = L.set k (OwnS e sz v ((sortedK cf zs).map f))) ∧ St B M w') := by
  obtain ⟨hA, sA, hlA, hr⟩ := s.get (Ent.at k hk)
  by_cases hne : zs = []
  · subst hne
    have hs : sortedK cf [] = [] := by simp [sortedK]
    have hL : L.set k (OwnS e sz v ((sortedK cf []).map f)) = L := by rw [hs]; exact set_same hk
    have hv : ∃ p cap, v = .slice p 0 cap := by
      rcases hr with ⟨⟨a, rfl⟩, _⟩ | ⟨g, og, cap, cur, rfl, _⟩
      · exact ⟨a, 0, rfl⟩
      · exact ⟨_, cap, rfl⟩
    obtain ⟨p, cap, rfl⟩ := hv
    refine (S.none p cap _ w).mono ?_
    rintro e' w' ⟨rfl, rfl⟩
    exact ⟨_, _, rfl, ⟨rfl, rfl⟩, by rw [hL]; exact s⟩
  · rcases hr with ⟨_, hn⟩ | ⟨b, og, cap, cur, rfl, hcp, hm, hgb, hsize, htk⟩
    · exact absurd (by simpa using hn) hne
    · have hgw := sA b _ hgb
      have hlt : b < w.heap.size := (Array.getElem?_eq_some_iff.1 (show w.heap[b]? = _ from hgw)).1
      obtain ⟨z0, zr, hz0⟩ : ∃ z0 zr, zs = z0 :: zr := by
        cases zs with
        | nil => exact absurd rfl hne
        | cons a r => exact ⟨a, r, rfl⟩
      have inh : Inhabited { x : α // x ∈ zs } := ⟨⟨z0, by rw [hz0]; simp⟩⟩
      have hmne : zs.map f ≠ [] := by rw [hz0]; simp
      let enc : { x : α // x ∈ zs } → List Value := fun x => f x.1
      have encl : ∀ x, (enc x).length = sz := fun x => hf x.1
      have fl : ∀ d : List { x : α // x ∈ zs }, flatK enc sz d.toArray = (((d.map (·.1)).map f).flatten).toArray := fun d => by
        rw [flatK_eq enc sz encl]; simp [enc, Function.comp_def]
      have hH : HoldsK enc sz w b og zs.attach.toArray := by
        unfold HoldsK
        rw [fl, List.attach_map_subtype_val]
        exact OwnS.holdsV hlA hcp hgw hsize htk
      have eg : ∀ args w, (callFunc g args).run P w = .ok (.enter g args) w := fun args w => by
        unfold callB at hg
        cases x : P.funcs[g]? with
        | none => rw [x] at hg; cases hg
        | some fn =>
          rw [x] at hg
          simp only [Bool.and_eq_true] at hg
          have hb : ¬ fn.body = Option.none := by intro y; rw [y] at hg; cases hg.1
          have hn : ¬ fn.name = "runtime.NumGoroutine" := by simpa using hg.2
          simp [callFunc, x, hb, hn]
      have hall : ∀ d : List α, ∀ c ∈ d.map f, c.length = sz := fun d c hc => by obtain ⟨x, _, rfl⟩ := List.mem_map.1 hc; exact hf x
      have hcmp : Go.Proofs.CmpLays P g cb enc sz (cmpOfK cf zs) b og zs.attach.toArray.size w := fun m os dk hdk x y => by
        have hsz : dk.size = zs.length := by rw [hdk]; simp
        have ew : sortWorldK enc sz w b og m dk os = Go.Sort.grow (Go.Sort.putRow id (Go.Sort.ahead w m) b og (((dk.toList.map (·.1)).map f).flatten).toArray) os := by
          unfold sortWorldK putRowK
          have := fl dk.toList
          rw [show dk.toList.toArray = dk from by simp] at this
          rw [this]
        rw [ew]
        have s2 := St.putRowV (css' := (dk.toList.map (·.1)).map f) s hk hmne (by simp [hsz]) (hall _) m os
        generalize Go.Sort.grow (Go.Sort.putRow id (Go.Sort.ahead w m) b og (((dk.toList.map (·.1)).map f).flatten).toArray) os = W at s2
        have s3 : Sat (L.eraseIdx k) (hw W) := by
          have := Sat.erase k s2.sat
          rwa [List.eraseIdx_set_eq] at this
        obtain ⟨r, hr⟩ := ho.tot x.1 x.2 y.1 y.2
        refine (hc W [Was W] (fun A hA => Sat.wholeK s3 hA) x.1 y.1 r hr W (St.start W)).mono ?_
        rintro e' w' ⟨rfl, hs'⟩
        refine ⟨?_, world_grownK hs'⟩
        unfold cmpOfK; rw [hr]; rfl
      have := S.some enc encl (fun x => h1 x.1) (cmpOfK cf zs) ho.swo g cb b og cap zs.attach.toArray w eg hcmp hH hlt (by simpa using ho.len) ho.anti
      have hsz : zs.attach.toArray.size = zs.length := by simp
      rw [hsz] at this
      have hml : (zs.map f).length = zs.length := by simp
      rw [hml]
      refine this.mono ?_
      rintro e' w' ⟨rfl, n, os, rfl⟩
      have ew : sortWorldK enc sz w b og n (zs.attach.toArray.toList.mergeSort fun x y => !(ltOf (cmpOfK cf zs)) y x).toArray os = Go.Sort.grow (Go.Sort.putRow id (Go.Sort.ahead w n) b og (((sortedK cf zs).map f).flatten).toArray) os := by
        unfold sortWorldK putRowK
        rw [fl]; rfl
      rw [ew]
      have s4 := St.putRowV (css' := (sortedK cf zs).map f) s hk hmne (by simp [sortedK_len]) (hall _) n os
      rw [hml] at s4
      exact ⟨_, _, rfl, ⟨rfl, rfl⟩, s4⟩
variable {ops : Array Oper} {rest : List Oper} {Q : Act → World → Prop} {d : Nat} {ty : TypeId} {ps : String} {af : Array Edge}
/-- slices.SortFunc(s, cmp) -/
theorem TO.sortK {fn e sz g : Nat} {cb : Array Value} {v : Value} {zs ys : List α} {fo x y : Operand} {ts : Array TypeId} (k : Nat) (cf : α × α → Option Int) (hfn : callB P fn = true) (S : SortKs P sz fn) (hf : ∀ x, (f x).length = sz) (h1 : ∀ x, ∀ c ∈ f x, c.oneCell' = true) (hs : srtK cf zs = Option.some ys) (hg : callB P g = true)
    (hfo : opv E fo = Option.some (.func (.func fn) #[] #[])) (hx : opv E x = Option.some v) (hy : opv E y = Option.some (.func (.func g) #[] cb)) (hk : L[k]? = Option.some (OwnS e sz v (zs.map f)))
    (hc : ∀ (B' : World) (L' : List HP), (∀ A, Ent (L.eraseIdx k) A → Ent L' A) → ∀ (x y : α) (r : Int), cf (x, y) = Option.some r → ∀ w, St B' L' w → Calls P g (#[.agg (f x).toArray, .agg (f y).toArray] ++ cb) w (fun e w' => e = .returned (I r) ∧ St B' L' w')) (hd : Nat.blt d N = true)
    (h : TO P N B ops rest ((d, .tuple #[]) :: E) (L.set k (OwnS e sz v (ys.map f))) Q) : TO P N B ops (⟨Option.some d, .call ⟨.value fo, #[x, y], ts⟩, ty, ps, af, Option.none⟩ :: rest) E L Q :=
  TO.step rfl rfl hd (StepW.call («as» := [x, y]) (vs := [v, .func (.func g) #[] cb]) (al := #[v, .func (.func g) #[] cb]) (R := fun u M => u = .tuple #[] ∧ M = L.set k (OwnS e sz v ((sortedK cf zs).map f))) hfn hfo (by simp [opvs, hx, hy]) (by simp) fun w s => SortKs.call S hf h1 (srtK_spec hs).1 hg hk hc w s) fun u M ⟨hu, hM⟩ => by subst hu; subst hM; rw [← (srtK_spec hs).2]; exact h
theorem TO.sortK0 {fn e sz g : Nat} {cb : Array Value} {v : Value} {zs ys : List α} {fo x y : Operand} {ts : Array TypeId} (k : Nat) (cf : α × α → Option Int) (hfn : callB P fn = true) (S : SortKs P sz fn) (hf : ∀ x, (f x).length = sz) (h1 : ∀ x, ∀ c ∈ f x, c.oneCell' = true) (hs : srtK cf zs = Option.some ys) (hg : callB P g = true)
    (hfo : opv E fo = Option.some (.func (.func fn) #[] #[])) (hx : opv E x = Option.some v) (hy : opv E y = Option.some (.func (.func g) #[] cb)) (hk : L[k]? = Option.some (OwnS e sz v (zs.map f)))
    (hc : ∀ (B' : World) (L' : List HP), (∀ A, Ent (L.eraseIdx k) A → Ent L' A) → ∀ (x y : α) (r : Int), cf (x, y) = Option.some r → ∀ w, St B' L' w → Calls P g (#[.agg (f x).toArray, .agg (f y).toArray] ++ cb) w (fun e w' => e = .returned (I r) ∧ St B' L' w'))
    (h : TO P N B ops rest E (L.set k (OwnS e sz v (ys.map f))) Q) : TO P N B ops (⟨Option.none, .call ⟨.value fo, #[x, y], ts⟩, ty, ps, af, Option.none⟩ :: rest) E L Q :=
  TO.step0 rfl rfl (StepW.call («as» := [x, y]) (vs := [v, .func (.func g) #[] cb]) (al := #[v, .func (.func g) #[] cb]) (R := fun u M => u = .tuple #[] ∧ M = L.set k (OwnS e sz v ((sortedK cf zs).map f))) hfn hfo (by simp [opvs, hx, hy]) (by simp) fun w s => SortKs.call S hf h1 (srtK_spec hs).1 hg hk hc w s) fun u M ⟨hu, hM⟩ => by subst hM; rw [← (srtK_spec hs).2]; exact h
end
/-! slices.Grow of nil. -/
/-- the model of slices.Grow(nil, n) -/
def growm {α : Type} (bytes : Nat) (n : Int) : Option (List α) := if 0 ≤ n ∧ n * bytes ≤ 140737488355328 ∧ n ≤ 4611686018427387904 then some [] else none
structure GrowKs (P : Program) (e sz bytes k : Nat) : Prop where
  some : ∀ (n : Nat) (w : World), 0 < n → n * bytes ≤ 140737488355328 → n ≤ 4611686018427387904 → Calls P k #[.slice none 0 0, .int .i64 n] w fun e' w' => ∃ (cap : Nat) (cells : Array Value), cap ≤ maxLen ∧ cells.size = cap * sz ∧ e' = .returned (.slice (some ⟨w.heap.size, 0, none⟩) 0 cap) ∧ w' = w.drew.alloc (.cells cells e)
  none : ∀ (w : World), Calls P k #[.slice Option.none 0 0, .int .i64 0] w fun e' w' => e' = .returned (.slice Option.none 0 0) ∧ w' = w
theorem GrowKs.call {α : Type} {f : α → List Value} {e sz bytes k : Nat} {n : Int} {ys : List α} (S : GrowKs P e sz bytes k) (hm : growm bytes n = Option.some ys) {w : World} (st : St B L w) :
    Calls P k #[.slice Option.none 0 0, I n] w (fun e' w' => ∃ v M, e' = .returned v ∧ (∃ (qv1 : Value), v = qv1 ∧ M = (OwnS e sz qv1 (ys.map f) :: L)) ∧ St B M w') := by
  unfold growm at hm
  split at hm
  · rename_i c
    obtain ⟨c0, c1, c2⟩ := c
    obtain rfl := Option.some.inj hm
    obtain ⟨m, rfl⟩ := Int.eq_ofNat_of_zero_le c0
    by_cases h0 : m = 0
    · subst h0
      refine (S.none w).mono ?_
      rintro e' w' ⟨rfl, rfl⟩
      exact ⟨_, _, rfl, ⟨_, rfl, rfl⟩, st.mono fun _ s => Sat.nilS s⟩
    · refine (S.some m w (by omega) (by have h3 : ((m * bytes : Nat) : Int) ≤ 140737488355328 := by rw [Int.natCast_mul]; exact c1
                                        omega) (by omega)).mono ?_
      rintro e' w' ⟨cap, cells, h1, h2, rfl, rfl⟩
      refine ⟨_, _, rfl, ⟨_, rfl, rfl⟩, st.drew.new ?_⟩
      show OwnS e sz _ (([] : List α).map f) _
      refine ⟨?_, Or.inr ⟨w.heap.size, 0, cap, cells, rfl, Nat.zero_le _, h1, put_same _ _ _, ?_, ?_⟩⟩
      · intro c hc; simp at hc
      · rw [h2]; omega
      · simp
  · cases hm
end Go.Bk
