/-
  The walks: each Go function returns what its model says. Written by a program (gen.py).
-/
import Derived.Test.YtpeijfboikfcjaaProg
import Derived.KernelRfl
import Derived.Test.YtpeijfboikfcjaaAW
import Derived.Test.YtpeijfboikfcjaaBM
namespace Go.Proofs.Ytpeijfboikfcjaa
open Go Go.Bk
set_option linter.unusedVariables false
set_option linter.unnecessarySimpa false
theorem kscalB_46_true : scalB Try.prog 46 = true := by kernel_rfl
theorem kelemB_46_48_3_24_true : elemB Try.prog 46 48 3 24 = true := by kernel_rfl
theorem kinfo_48_bind_zero_some_agg_I_0_I_0_I_0 : (Try.prog.info? 48).bind (·.zero) = some (.agg #[I 0, I 0, I 0]) := by kernel_rfl
theorem ksizeB_46_1_true : sizeB Try.prog 46 1 = true := by kernel_rfl
theorem kfieldB_26_3_3_true : fieldB Try.prog 26 3 3 = true := by kernel_rfl
theorem ksliceB_46_48_3_true : sliceB Try.prog 46 48 3 = true := by kernel_rfl
theorem kfieldB_26_1_1_true : fieldB Try.prog 26 1 1 = true := by kernel_rfl
theorem kinfo_46_bind_zero_some_slice_none_0_0 : (Try.prog.info? 46).bind (·.zero) = some (.slice none 0 0) := by kernel_rfl
theorem kcallB_17_true : callB Try.prog 17 = true := by kernel_rfl
theorem kcallB_16_true : callB Try.prog 16 = true := by kernel_rfl
theorem kfieldB_26_0_0_true : fieldB Try.prog 26 0 0 = true := by kernel_rfl
theorem kscalB_24_true : scalB Try.prog 24 = true := by kernel_rfl
theorem ksizeB_24_1_true : sizeB Try.prog 24 1 = true := by kernel_rfl
theorem kaggB_48_3_true : aggB Try.prog 48 3 = true := by kernel_rfl
theorem ksizeB_48_3_true : sizeB Try.prog 48 3 = true := by kernel_rfl
theorem kcallB_18_true : callB Try.prog 18 = true := by kernel_rfl
theorem kfieldB_48_1_1_true : fieldB Try.prog 48 1 1 = true := by kernel_rfl
theorem kfieldB_48_0_0_true : fieldB Try.prog 48 0 0 = true := by kernel_rfl
theorem kfieldB_26_2_2_true : fieldB Try.prog 26 2 2 = true := by kernel_rfl
theorem ksizeB_4_1_true : sizeB Try.prog 4 1 = true := by kernel_rfl
theorem kcallB_4_true : callB Try.prog 4 = true := by kernel_rfl
theorem kcallB_5_true : callB Try.prog 5 = true := by kernel_rfl
theorem kcallB_6_true : callB Try.prog 6 = true := by kernel_rfl
theorem kcallB_7_true : callB Try.prog 7 = true := by kernel_rfl
theorem kcallB_8_true : callB Try.prog 8 = true := by kernel_rfl
theorem kcallB_9_true : callB Try.prog 9 = true := by kernel_rfl
theorem kscalB_4_true : scalB Try.prog 4 = true := by kernel_rfl
theorem kunderlying_4_some_bool : Try.prog.underlying 4 = some .bool := by kernel_rfl

set_option maxRecDepth 100000 in
theorem C16 {B : World} {L : List HP} {a0 : Int} {a1 : Int} {a2 : List (Int × Int × Int)} {a3 : Int} {b2_ : Nat} {h2_1 : Value} {b3_ : Nat} {u3_0 : Value} {u3_1 : Value} {u3_2 : Value} {s0 : List (Int × Int × Int)} {s1 : Int} (hm : F16 a0 a1 a2 a3 = some (s0, s1)) {w : World} (st : St B (Bx b2_ 46 [h2_1] :: OwnS 48 3 h2_1 (a2.map cTiii) :: Bx b3_ 26 [u3_0, u3_1, u3_2, I a3] :: L) w) : Calls Try.prog 16 #[I a0, I a1, .pointer (some ⟨b2_, 0, none⟩), .pointer (some ⟨b3_, 0, none⟩)] w (fun e w' => ∃ v M, e = .returned v ∧ (∃ (qv1 : Value), v = .tuple #[] ∧ M = (Bx b2_ 46 [qv1] :: OwnS 48 3 qv1 (s0.map cTiii) :: Bx b3_ 26 [u3_0, u3_1, u3_2, I s1] :: L)) ∧ St B M w') := by
  refine calls_of (N := 16) (L := (Bx b2_ 46 [h2_1] :: OwnS 48 3 h2_1 (a2.map cTiii) :: Bx b3_ 26 [u3_0, u3_1, u3_2, I a3] :: L)) (args := [I a0, I a1, .pointer (some ⟨b2_, 0, none⟩), .pointer (some ⟨b3_, 0, none⟩)]) Try.func16 rfl rfl rfl ?_ st
  dsimp only [F16] at hm
  refine TC.k ?_
  refine TC.region ?_
  refine TO.s rfl rfl rfl (StepS.ldB rfl (Ent.at 0 rfl) kscalB_46_true rfl) ?_
  refine TO.s rfl rfl rfl (StepS.move rfl) ?_
  refine TO.s rfl rfl rfl (StepS.move rfl) ?_
  refine TO.s rfl rfl rfl (StepS.build (cs := [I a0, I a1, I 0]) rfl (by kernel_rfl)) ?_
  refine TO.litS (f := cTiii) ([(a0, a1, 0)] : List (Int × Int × Int)) kelemB_46_48_3_24_true kinfo_48_bind_zero_some_agg_I_0_I_0_I_0 rfl rfl (fun _ => rfl) rfl rfl (by kernel_rfl) rfl fun v3 => ?_
  obtain ⟨y5, hk6, hm⟩ := bind_some hm
  refine TO.app (k := 2) (f := cTiii) kelemB_46_48_3_24_true (by decide) rfl rfl rfl (OwnS.rd (Ent.at 0 rfl)) hk6 (fun x c hc => by simp [Value.oneCell'] at hc ⊢; first | (obtain rfl := hc; rfl) | (rcases hc with rfl | rfl | rfl <;> rfl)) rfl rfl fun v7 => ?_
  refine TO.pure (fun _ s => Rd.one (OwnS.rd (Ent.at 2 rfl)) s) fun oc8 => ?_
  refine TO.stB (us := [v7]) 1 [v7] rfl rfl rfl ksizeB_46_1_true oc8.2 rfl rfl (by intro u hu; simp only [List.mem_cons, List.not_mem_nil, or_false] at hu; rcases hu with rfl <;> first | exact oc8.1 | rfl) rfl ?_
  refine TO.code ?_
  refine TC.region ?_
  refine TO.s rfl rfl rfl (StepS.fld rfl kfieldB_26_3_3_true) ?_
  refine TO.s rfl rfl rfl (StepS.ldB rfl (Ent.at 3 rfl) kscalB_3_true rfl) ?_
  refine TO.s rfl rfl rfl (StepS.ari rfl rfl rfl) ?_
  refine TO.s rfl rfl rfl (StepS.fld rfl kfieldB_26_3_3_true) ?_
  refine TO.stB (us := [I (w64 (a3 + 1))]) 3 [u3_0, u3_1, u3_2, I (w64 (a3 + 1))] rfl rfl rfl ksizeB_3_1_true rfl rfl rfl (by simp [Value.oneCell']) rfl ?_
  cases hm
  refine TO.nil fun a w e s => ?_
  refine FRet.mk0 (P := Try.prog) (fn := Try.f16) e rfl ?_
  refine ⟨_, _, rfl, ⟨(v7), rfl, rfl⟩, ?_⟩
  refine s.mono fun _ s => ?_
  replace s := Sat.front 3 rfl s
  replace s := Sat.front 3 rfl s
  replace s := Sat.front 3 rfl s
  replace s := Sat.erase 3 s
  exact s

set_option maxRecDepth 100000 in
theorem C17 {B : World} {L : List HP} {a0 : Int} {a1 : List (Int × Int)} {a2 : Int} {h1 : Value} {r0 : List Int} (e1 : Ent L (Rd 2 h1 (a1.map cTii))) (hm : F17 a0 a1 a2 = some r0) {w : World} (st : St B L w) : Calls Try.prog 17 #[I a0, h1, I a2] w (fun e w' => ∃ v M, e = .returned v ∧ (∃ (qv1 : Value), v = qv1 ∧ M = (OwnS 3 1 qv1 (r0.map cI) :: L)) ∧ St B M w') := by
  refine calls_of (N := 50) (L := L) (args := [I a0, h1, I a2]) Try.func17 rfl rfl rfl ?_ st
  dsimp only [F17] at hm
  refine TC.k ?_
  refine TC.region ?_
  refine TO.s rfl rfl rfl (StepS.assign rfl) ?_
  refine TO.code ?_
  refine TC.k ?_
  refine TC.region ?_
  refine TO.s rfl rfl rfl (StepS.assign rfl) ?_
  refine TO.code ?_
  refine TC.k ?_
  refine TC.k ?_
  refine TC.region ?_
  refine TO.s rfl rfl rfl (StepS.assign rfl) ?_
  refine TO.code ?_
  obtain ⟨o13, hw14, hm⟩ := bind_some hm
  refine TC.loop hw14 (fun (y4, x5) => fun a w => ∃ v2 : Value, Mid 50 B [(0, I a0), (1, h1), (2, I a2), (7, v2), (8, I x5)] (OwnS 3 1 v2 (y4.map cI) :: L) a w) (fun y12 => fun a w => ∃ v10 : Value, Mid 50 B [(7, v10)] (OwnS 3 1 v10 (y12.map cI) :: L) a w) (fun (_ : Unit) _ _ => False) ?_ ?_ ?_ ?_
  · rintro ⟨y4, x5⟩ o13r hb15 a w ⟨v2, he, hs⟩
    dsimp only [F17_L0] at hb15
    refine TC.use ?_ he hs
    refine TC.k ?_
    refine TC.k ?_
    refine TC.region ?_
    refine TO.s rfl rfl rfl (StepS.move rfl) ?_
    refine TO.s rfl rfl rfl (StepS.move rfl) ?_
    refine TO.s rfl rfl rfl (StepS.cmp rfl rfl rfl) ?_
    refine TO.code ?_
    refine TC.cond rfl (fun hc16 => ?_) (fun hc16 => ?_)
    · replace hb15 := cond_t hc16 hb15
      refine TC.skipk ?_
      refine TC.k ?_
      refine TC.block ?_
      refine TC.k ?_
      refine TC.region ?_
      refine TO.s rfl rfl rfl (StepS.move rfl) ?_
      refine TO.s rfl rfl rfl (StepS.lenm rfl e1.tl ksliceB_22_42_2_true rfl) ?_
      refine TO.s rfl rfl rfl (StepS.move rfl) ?_
      refine TO.code ?_
      obtain ⟨o25, hw26, hb15⟩ := bind_some hb15
      refine TC.loop hw26 (fun (y17, x19) => fun a w => ∃ v18 : Value, Mid 50 B [(0, I a0), (1, h1), (2, I a2), (7, v18), (8, I x5), (16, h1), (17, I (a1.length : Int)), (18, I x19)] (OwnS 3 1 v18 (y17.map cI) :: L) a w) (fun y23 => fun a w => ∃ v24 : Value, Mid 50 B [(0, I a0), (1, h1), (2, I a2), (7, v24), (8, I x5)] (OwnS 3 1 v24 (y23.map cI) :: L) a w) (fun (_ : Unit) _ _ => False) ?_ ?_ ?_ ?_
      · rintro ⟨y17, x19⟩ o25r hb27 a w ⟨v18, he, hs⟩
        dsimp only [F17_L1] at hb27
        refine TC.use ?_ he hs
        refine TC.k ?_
        refine TC.region ?_
        refine TO.s rfl rfl rfl (StepS.cmp rfl rfl rfl) ?_
        refine TO.code ?_
        refine TC.k ?_
        refine TC.cond rfl (fun hc28 => ?_) (fun hc28 => ?_)
        · replace hb27 := cond_t hc28 hb27
          refine TC.skipk ?_
          refine TC.k ?_
          obtain ⟨y29, hj31, hb27⟩ := bind_some hb27
          first | refine TC.cutM (fun a w => ∃ v30 : Value, Mid 50 B [(0, I a0), (1, h1), (2, I a2), (7, v30), (8, I x5), (16, h1), (17, I (a1.length : Int)), (18, I x19)] (OwnS 3 1 v30 (y29.map cI) :: L) a w) ?_ ?_ | refine TC.cutX (fun a w => ∃ v30 : Value, Mid 50 B [(0, I a0), (1, h1), (2, I a2), (7, v30), (8, I x5), (16, h1), (17, I (a1.length : Int)), (18, I x19)] (OwnS 3 1 v30 (y29.map cI) :: L) a w) ?_ ?_
          · refine TC.block ?_
            refine TC.k ?_
            refine TC.region ?_
            obtain ⟨x32, hx33, hj31⟩ := bind_some hj31
            refine TO.s rfl rfl rfl (StepS.idx rfl rfl e1.tl ksliceB_22_42_2_true (idx_spec hx33).1 (idxm_lt hx33)) ?_
            refine TO.s rfl rfl rfl (StepS.ldE rfl e1.tl kaggB_42_2_true rfl (idxm hx33)) ?_
            refine TO.alloc kinfo_42_bind_zero_some_agg_I_0_I_0 rfl rfl fun b34 => ?_
            refine TO.stB (us := [I x32.1, I x32.2]) 0 [I x32.1, I x32.2] rfl rfl rfl ksizeB_42_2_true rfl rfl rfl (by simp [Value.oneCell']) rfl ?_
            refine TO.code ?_
            refine TC.k ?_
            refine TC.region ?_
            refine TO.s rfl rfl rfl (StepS.aidx (j := 0) rfl rfl karrB_42_2_3_1_true ⟨by decide, by decide⟩ rfl) ?_
            refine TO.s rfl rfl rfl (StepS.ldB rfl (Ent.at 0 rfl) kscalB_3_true rfl) ?_
            refine TO.s rfl rfl rfl (StepS.move rfl) ?_
            refine TO.s rfl rfl rfl (StepS.cmp rfl rfl rfl) ?_
            refine TO.s rfl rfl rfl (StepS.move rfl) ?_
            refine TO.mid1 5 31 (.bool ((x32.1 == a2) && (x32.2 == x5))) ?_ ?_
            · refine bcase ((x32.1 == a2)) (fun hb35 => ?_) (fun hb35 => ?_)
              · refine TO.sw rfl rfl rfl hb35 rfl rfl (StepS.aidx (j := 1) rfl rfl karrB_42_2_3_1_true ⟨by decide, by decide⟩ rfl) ?_
                refine TO.sw rfl rfl rfl hb35 rfl rfl (StepS.ldB rfl (Ent.at 0 rfl) kscalB_3_true rfl) ?_
                refine TO.sw rfl rfl rfl hb35 rfl rfl (StepS.move rfl) ?_
                refine TO.sw rfl rfl rfl hb35 rfl rfl (StepS.cmp rfl rfl rfl) ?_
                refine TO.s rfl rfl rfl (StepS.pickT rfl hb35 rfl) ?_
                exact TO.up1 5 0 rfl rfl (by rw [hb35]; rfl) rfl
              · refine TO.skip rfl rfl rfl (skipF hb35) rfl rfl ?_
                refine TO.skip rfl rfl rfl (skipF hb35) rfl rfl ?_
                refine TO.skip rfl rfl rfl (skipF hb35) rfl rfl ?_
                refine TO.skip rfl rfl rfl (skipF hb35) rfl rfl ?_
                refine TO.s rfl rfl rfl (StepS.pickF rfl hb35 rfl) ?_
                exact TO.up1 5 0 rfl rfl (by rw [hb35]; rfl) rfl
            refine TO.s rfl rfl rfl (StepS.move rfl) ?_
            refine TO.mid1 11 43 (.bool (((x32.1 == a2) && (x32.2 == x5)) || ((x32.2 == a2) && (x32.1 == x5)))) ?_ ?_
            · refine bcase (((x32.1 == a2) && (x32.2 == x5))) (fun hb36 => ?_) (fun hb36 => ?_)
              · refine TO.skip rfl rfl rfl (skipT hb36) rfl rfl ?_
                refine TO.skip rfl rfl rfl (skipT hb36) rfl rfl ?_
                refine TO.skip rfl rfl rfl (skipT hb36) rfl rfl ?_
                refine TO.skip rfl rfl rfl (skipT hb36) rfl rfl ?_
                refine TO.skip rfl rfl rfl (skipT hb36) rfl rfl ?_
                refine TO.skip rfl rfl rfl skipU rfl rfl ?_
                refine TO.skip rfl rfl rfl skipU rfl rfl ?_
                refine TO.skip rfl rfl rfl skipU rfl rfl ?_
                refine TO.skip rfl rfl rfl skipU rfl rfl ?_
                refine TO.skip rfl rfl rfl (skipT hb36) rfl rfl ?_
                refine TO.s rfl rfl rfl (StepS.pickT rfl hb36 rfl) ?_
                exact TO.up1 11 0 rfl rfl (by rw [hb36]; rfl) rfl
              · refine TO.sw rfl rfl rfl hb36 rfl rfl (StepS.aidx (j := 1) rfl rfl karrB_42_2_3_1_true ⟨by decide, by decide⟩ rfl) ?_
                refine TO.sw rfl rfl rfl hb36 rfl rfl (StepS.ldB rfl (Ent.at 0 rfl) kscalB_3_true rfl) ?_
                refine TO.sw rfl rfl rfl hb36 rfl rfl (StepS.move rfl) ?_
                refine TO.sw rfl rfl rfl hb36 rfl rfl (StepS.cmp rfl rfl rfl) ?_
                refine TO.sw rfl rfl rfl hb36 rfl rfl (StepS.move rfl) ?_
                refine TO.mid1 5 42 (.bool ((x32.2 == a2) && (x32.1 == x5))) ?_ ?_
                · refine bcase ((x32.2 == a2)) (fun hb37 => ?_) (fun hb37 => ?_)
                  · refine TO.sw rfl rfl rfl hb37 rfl rfl (StepS.aidx (j := 0) rfl rfl karrB_42_2_3_1_true ⟨by decide, by decide⟩ rfl) ?_
                    refine TO.sw rfl rfl rfl hb37 rfl rfl (StepS.ldB rfl (Ent.at 0 rfl) kscalB_3_true rfl) ?_
                    refine TO.sw rfl rfl rfl hb37 rfl rfl (StepS.move rfl) ?_
                    refine TO.sw rfl rfl rfl hb37 rfl rfl (StepS.cmp rfl rfl rfl) ?_
                    refine TO.sw rfl rfl rfl hb36 rfl rfl (StepS.pickT rfl hb37 rfl) ?_
                    exact TO.up1 5 0 rfl rfl (by rw [hb37]; rfl) rfl
                  · refine TO.skip rfl rfl rfl (skipF hb37) rfl rfl ?_
                    refine TO.skip rfl rfl rfl (skipF hb37) rfl rfl ?_
                    refine TO.skip rfl rfl rfl (skipF hb37) rfl rfl ?_
                    refine TO.skip rfl rfl rfl (skipF hb37) rfl rfl ?_
                    refine TO.sw rfl rfl rfl hb36 rfl rfl (StepS.pickF rfl hb37 rfl) ?_
                    exact TO.up1 5 0 rfl rfl (by rw [hb37]; rfl) rfl
                refine TO.s rfl rfl rfl (StepS.pickF rfl hb36 rfl) ?_
                exact TO.up1 7 0 rfl rfl (by rw [hb36]; rfl) rfl
            refine TO.code ?_
            refine TC.cond rfl (fun hc38 => ?_) (fun hc38 => ?_)
            · replace hj31 := cond_t hc38 hj31
              refine TC.region ?_
              refine TO.s rfl rfl rfl (StepS.move rfl) ?_
              refine TO.s rfl rfl rfl (StepS.move rfl) ?_
              refine TO.litS (f := cI) ([x5] : List Int) kelemB_23_3_1_8_true kinfo_3_bind_zero_some_I_0 rfl rfl (fun _ => rfl) rfl rfl (by kernel_rfl) rfl fun v39 => ?_
              obtain ⟨y41, hk42, hj31⟩ := bind_some hj31
              refine TO.app (k := 2) (f := cI) kelemB_23_3_1_8_true (by decide) rfl rfl rfl (OwnS.rd (Ent.at 0 rfl)) hk42 (fun x c hc => by simp [Value.oneCell'] at hc ⊢; first | (obtain rfl := hc; rfl) | (rcases hc with rfl <;> rfl)) rfl rfl fun v43 => ?_
              refine TO.s rfl rfl rfl (StepS.assign rfl) ?_
              cases hj31
              refine TO.nil fun a w e s => ?_
              exact ⟨v43, e.sub (lk_of_allIn ⟨rfl, rfl, rfl, rfl, rfl, rfl, rfl, rfl, trivial⟩), s.mono fun _ => Sat.dropN 2⟩
            · replace hj31 := cond_f hc38 hj31
              cases hj31
              refine TC.skip fun a w e s => ?_
              exact ⟨v18, e.sub (lk_of_allIn ⟨rfl, rfl, rfl, rfl, rfl, rfl, rfl, rfl, trivial⟩), s.mono fun _ => Sat.dropN 1⟩
          · intro a w ⟨v30, he, hs⟩
            refine TC.use ?_ he hs
            refine TC.region ?_
            refine TO.s rfl rfl rfl (StepS.ari rfl rfl rfl) ?_
            refine TO.s rfl rfl rfl (StepS.move rfl) ?_
            cases hb27
            refine TO.nil fun a w e s => ?_
            exact ⟨v30, e.sub (lk_of_allIn ⟨rfl, rfl, rfl, rfl, rfl, rfl, rfl, rfl, trivial⟩), s⟩
        · replace hb27 := cond_f hc28 hb27
          cases hb27
          refine TC.exit rfl fun a w e s => ?_
          exact ⟨v18, e.sub (lk_of_allIn ⟨rfl, rfl, rfl, rfl, rfl, trivial⟩), s⟩
      · exact fun a w e s => ⟨v2, e.sub (lk_of_allIn ⟨rfl, rfl, rfl, rfl, rfl, rfl, rfl, rfl, trivial⟩), s⟩
      · rintro y23 rfl a w ⟨v24, he, hs⟩
        dsimp only [Ctl.on] at hb15
        refine TC.use ?_ he hs
        refine TC.region ?_
        refine TO.s rfl rfl rfl (StepS.move rfl) ?_
        refine TO.s rfl rfl rfl (StepS.ari rfl rfl rfl) ?_
        refine TO.s rfl rfl rfl (StepS.assign rfl) ?_
        cases hb15
        refine TO.nil fun a w e s => ?_
        exact ⟨v24, e.sub (lk_of_allIn ⟨rfl, rfl, rfl, rfl, rfl, trivial⟩), s⟩
      · rintro r rfl
        exact fun a w h => h.elim
    · replace hb15 := cond_f hc16 hb15
      cases hb15
      refine TC.exit rfl fun a w e s => ?_
      exact ⟨v2, e.sub (lk_of_allIn ⟨rfl, trivial⟩), s⟩
  · exact fun a w e s => ⟨.slice none 0 0, e.sub (lk_of_allIn ⟨rfl, rfl, rfl, rfl, rfl, trivial⟩), s.mono fun _ s => (by replace s := Sat.nilS (e := 3) (sz := 1) (f := cI) s; exact Sat.by [0] 1 0 (by kernel_rfl) s)⟩
  · rintro y12 rfl a w ⟨v10, he, hs⟩
    dsimp only [Ctl.on] at hm
    refine TC.use ?_ he hs
    refine TC.k ?_
    refine TC.region ?_
    refine TO.s rfl rfl rfl (StepS.move rfl) ?_
    refine TO.s rfl rfl rfl (StepS.assign rfl) ?_
    refine TO.code ?_
    cases hm
    refine TC.ret fun a w e s => ?_
    refine FRet.mk1 (P := Try.prog) (fn := Try.f17) (t := 6) e rfl rfl ?_
    refine ⟨_, _, rfl, ⟨(v10), rfl, rfl⟩, ?_⟩
    refine s.mono fun _ s => ?_
    replace s := Sat.front 0 rfl s
    exact s
  · rintro r rfl
    exact fun a w h => h.elim

set_option maxRecDepth 100000 in
theorem C18 {B : World} {L : List HP} {a0 : List (Int × Int × Int)} {a1 : Int} {h0 : Value} {r0 : List (Int × Int × Int)} (e0 : Ent L (Rd 3 h0 (a0.map cTiii))) (hm : F18 a0 a1 = some r0) {w : World} (st : St B L w) : Calls Try.prog 18 #[h0, I a1] w (fun e w' => ∃ v M, e = .returned v ∧ (∃ (qv1 : Value), v = qv1 ∧ M = (OwnS 48 3 qv1 (r0.map cTiii) :: L)) ∧ St B M w') := by
  refine calls_of (N := 15) (L := L) (args := [h0, I a1]) Try.func18 rfl rfl rfl ?_ st
  dsimp only [F18] at hm
  refine TC.k ?_
  refine TC.region ?_
  refine TO.s rfl rfl rfl (StepS.assign rfl) ?_
  refine TO.code ?_
  refine TC.k ?_
  refine TC.region_any (L) 11 11 kfollows_mixedOrders_true rfl ?_
  refine TA.takeW 1 rfl rfl rfl rfl (StepS.move rfl) (by kernel_rfl) (by kernel_rfl) (by kernel_rfl) rfl (.inr (fun _ s => s)) ?_
  refine TA.takeW 2 rfl rfl rfl rfl (StepS.move rfl) (by kernel_rfl) (by kernel_rfl) (by kernel_rfl) rfl (.inr (fun _ s => s)) ?_
  obtain ⟨yq2_3_1, hsq2_3_2, hm⟩ := bind_some hm
  obtain ⟨hsq2_3_2a, hsq2_3_2b, hsq2_3_2c, _⟩ := slI_spec hsq2_3_2
  refine TA.take 3 rfl rfl rfl rfl (StepS.slc rfl e0 ksliceB_46_48_3_true rfl rfl hsq2_3_2a hsq2_3_2b (by simpa using hsq2_3_2c)) (by kernel_rfl) (by kernel_rfl) (by kernel_rfl) (by kernel_rfl) (by kernel_rfl) (fun _ s => s) ?_
  refine TA.takeW 5 rfl rfl rfl rfl (StepS.move rfl) (by kernel_rfl) (by kernel_rfl) (by kernel_rfl) rfl (.inr (fun _ s => s)) ?_
  refine TA.takeW 6 rfl rfl rfl rfl (StepS.move rfl) (by kernel_rfl) (by kernel_rfl) (by kernel_rfl) rfl (.inr (fun _ s => s)) ?_
  refine TA.takeW 7 rfl rfl rfl rfl (StepS.ari rfl rfl rfl) (by kernel_rfl) (by kernel_rfl) (by kernel_rfl) rfl (.inr (fun _ s => s)) ?_
  obtain ⟨yq2_8_1, hsq2_8_2, hm⟩ := bind_some hm
  obtain ⟨hsq2_8_2a, hsq2_8_2b, hsq2_8_2c, _⟩ := slI_spec hsq2_8_2
  refine TA.take 8 rfl rfl rfl rfl (StepS.slc rfl e0 ksliceB_46_48_3_true rfl (by simp [bnd]) hsq2_8_2a hsq2_8_2b (by simpa using hsq2_8_2c)) (by kernel_rfl) (by kernel_rfl) (by kernel_rfl) (by kernel_rfl) (by kernel_rfl) (fun _ s => s) ?_
  refine TA.all1 (i := 0) (by kernel_rfl) ?_
  refine TB.of rfl ?_
  refine TO.lit0 (f := cTiii) ksliceB_46_48_3_true rfl fun vq2_0_1 => ?_
  refine TA.back (.inr (fun _ s => Sat.by [] 0 1 (by kernel_rfl) s)) ?_
  refine TA.asL (L' := (OwnS 48 3 vq2_0_1 (([] : List (Int × Int × Int)).map cTiii) :: L)) (listed' := #[true, true, true, true, false, true, true, true, true, false, false]) (by kernel_rfl) (by kernel_rfl) ?_
  refine TA.all1 (i := 4) (by kernel_rfl) ?_
  refine TB.of rfl ?_
  obtain ⟨yq2_4_1, hkq2_4_2, hm⟩ := bind_some hm
  refine TO.app (k := 0) (f := cTiii) kelemB_46_48_3_24_true (by decide) rfl rfl rfl (Ent.sub e0.tl hsq2_3_2) hkq2_4_2 (fun x c hc => by simp [Value.oneCell'] at hc ⊢; first | (obtain rfl := hc; rfl) | (rcases hc with rfl | rfl | rfl <;> rfl)) rfl rfl fun vq2_4_3 => ?_
  refine TA.back (.inr (fun _ s => Sat.by [] 0 1 (by kernel_rfl) s)) ?_
  refine TA.asL (L' := (OwnS 48 3 vq2_4_3 (yq2_4_1.map cTiii) :: L)) (listed' := #[true, true, true, true, true, true, true, true, true, false, false]) (by kernel_rfl) (by kernel_rfl) ?_
  refine TA.all1 (i := 9) (by kernel_rfl) ?_
  refine TB.of rfl ?_
  obtain ⟨yq2_9_1, hkq2_9_2, hm⟩ := bind_some hm
  refine TO.app (k := 0) (f := cTiii) kelemB_46_48_3_24_true (by decide) rfl rfl rfl (Ent.sub e0.tl hsq2_8_2) hkq2_9_2 (fun x c hc => by simp [Value.oneCell'] at hc ⊢; first | (obtain rfl := hc; rfl) | (rcases hc with rfl | rfl | rfl <;> rfl)) rfl rfl fun vq2_9_3 => ?_
  refine TA.back (.inr (fun _ s => Sat.by [] 0 1 (by kernel_rfl) s)) ?_
  refine TA.asL (L' := (OwnS 48 3 vq2_9_3 (yq2_9_1.map cTiii) :: L)) (listed' := #[true, true, true, true, true, true, true, true, true, true, false]) (by kernel_rfl) (by kernel_rfl) ?_
  refine TA.takeW 10 rfl rfl rfl rfl (StepS.assign rfl) (by kernel_rfl) (by kernel_rfl) (by kernel_rfl) rfl (.inr (fun _ s => Sat.by [] 0 1 (by kernel_rfl) s)) ?_
  refine TA.code (by kernel_rfl) ?_
  cases hm
  refine TC.ret fun a w e s => ?_
  refine FRet.mk1 (P := Try.prog) (fn := Try.f18) (t := 4) e rfl rfl ?_
  refine ⟨_, _, rfl, ⟨(vq2_9_3), rfl, rfl⟩, ?_⟩
  refine s.mono fun _ s => ?_
  replace s := Sat.front 0 rfl s
  exact s

set_option maxHeartbeats 1000000 in
set_option maxRecDepth 100000 in
theorem C7 {B : World} {L : List HP} {a0 : Int} {a1 : List (Int × Int)} {a2 : Int} {a3 : List Int} {h1 : Value} {h3 : Value} {r0 : (List Int) × (List Int) × Bool × Int} (e1 : Ent L (Rd 2 h1 (a1.map cTii))) (e3 : Ent L (Rd 1 h3 (a3.map cI))) (hm : F7 a0 a1 a2 a3 = some r0) {w : World} (st : St B L w) : Calls Try.prog 7 #[I a0, h1, I a2, h3] w (fun e w' => ∃ v M, e = .returned v ∧ (∃ (qv1 : Value) (qv2 : Value), v = .agg #[qv1, qv2, .bool r0.2.2.1, I r0.2.2.2] ∧ M = (OwnS 27 1 qv1 (r0.1.map cI) :: OwnS 3 1 qv2 (r0.2.1.map cI) :: L)) ∧ St B M w') := by
  refine calls_of (N := 171) (L := L) (args := [I a0, h1, I a2, h3]) Try.func7 rfl rfl rfl ?_ st
  dsimp only [F7] at hm
  refine TC.k ?_
  refine TC.region ?_
  refine TO.alloc kinfo_26_bind_zero_some_agg_slice_none_0_0_slice_none_0_0_bool_false_I_0 rfl rfl fun b3 => ?_
  refine TO.code ?_
  refine TC.k ?_
  refine TC.region ?_
  refine TO.s rfl rfl rfl (StepS.move rfl) ?_
  obtain ⟨y4, hk5, hm⟩ := bind_some hm
  refine TO.mkS (f := cI) (za := 0) kelemB_23_3_1_8_true kinfo_3_bind_zero_some_I_0 rfl (by decide) rfl rfl hk5 rfl fun v6 => ?_
  refine TO.pure (fun _ s => Rd.one (OwnS.rd (Ent.at 0 rfl)) s) fun oc8 => ?_
  refine TO.s rfl rfl rfl (StepS.buildS (us := [(1, .agg #[v6])]) (cs := [.slice none 0 0, v6, .bool false, I 0]) rfl (by simp only [List.map_cons, List.map_nil, oc8.2] <;> rfl) (by kernel_rfl)) ?_
  refine TO.alloc kinfo_26_bind_zero_some_agg_slice_none_0_0_slice_none_0_0_bool_false_I_0 rfl rfl fun b9 => ?_
  refine TO.pure (fun _ s => Rd.one (OwnS.rd (Ent.at 1 rfl)) s) fun oc10 => ?_
  refine TO.stB (us := [.slice none 0 0, v6, .bool false, I 0]) 0 [.slice none 0 0, v6, .bool false, I 0] rfl rfl rfl ksizeB_26_4_true rfl rfl rfl (by intro u hu; simp only [List.mem_cons, List.not_mem_nil, or_false] at hu; rcases hu with rfl | rfl | rfl | rfl <;> first | exact oc10.1 | rfl) rfl ?_
  refine TO.code ?_
  refine TC.k ?_
  refine TC.k ?_
  refine TC.region ?_
  refine TO.s rfl rfl rfl (StepS.assign rfl) ?_
  refine TO.code ?_
  obtain ⟨o16, hw17, hm⟩ := bind_some hm
  refine TC.loop hw17 (fun (y11, x12) => fun a w => Mid 171 B [(0, I a0), (1, h1), (2, I a2), (3, h3), (8, .pointer (some ⟨b3, 0, none⟩)), (9, .pointer (some ⟨b9, 0, none⟩)), (10, I x12)] (Bx b9 26 [.slice none 0 0, v6, .bool false, I 0] :: OwnS 3 1 v6 (y11.map cI) :: Bx b3 26 [.slice none 0 0, .slice none 0 0, .bool false, I 0] :: L) a w) (fun y15 => fun a w => Mid 171 B [(0, I a0), (1, h1), (2, I a2), (3, h3), (8, .pointer (some ⟨b3, 0, none⟩)), (9, .pointer (some ⟨b9, 0, none⟩))] (Bx b9 26 [.slice none 0 0, v6, .bool false, I 0] :: OwnS 3 1 v6 (y15.map cI) :: Bx b3 26 [.slice none 0 0, .slice none 0 0, .bool false, I 0] :: L) a w) (fun (_ : Unit) _ _ => False) ?_ ?_ ?_ ?_
  · rintro ⟨y11, x12⟩ o16r hb18 a w ⟨he, hs⟩
    dsimp only [F7_L0] at hb18
    refine TC.use ?_ he hs
    refine TC.k ?_
    refine TC.k ?_
    refine TC.region ?_
    refine TO.s rfl rfl rfl (StepS.move rfl) ?_
    refine TO.s rfl rfl rfl (StepS.move rfl) ?_
    refine TO.s rfl rfl rfl (StepS.cmp rfl rfl rfl) ?_
    refine TO.code ?_
    refine TC.cond rfl (fun hc19 => ?_) (fun hc19 => ?_)
    · replace hb18 := cond_t hc19 hb18
      refine TC.skipk ?_
      refine TC.k ?_
      refine TC.block ?_
      refine TC.region ?_
      refine TO.s rfl rfl rfl (StepS.fld rfl kfieldB_26_1_1_true) ?_
      refine TO.s rfl rfl rfl (StepS.ldB rfl (Ent.at 0 rfl) kscalB_23_true rfl) ?_
      refine TO.s rfl rfl rfl (StepS.move rfl) ?_
      obtain ⟨x20, hx21, hb18⟩ := bind_some hb18
      refine TO.s rfl rfl rfl (StepS.idx rfl rfl (OwnS.rd (Ent.at 1 rfl)) ksliceB_23_3_1_true (idx_spec hx21).1 (idxm_lt hx21)) ?_
      refine TO.stO (i := x12.toNat) (off := 0) (us := [I (-1)]) 1 (-1) rfl rfl rfl ksizeB_3_1_true rfl rfl rfl (idx_spec hx21).2 rfl (by simp [Value.oneCell']) rfl ?_
      refine TO.code ?_
      refine TC.region ?_
      refine TO.s rfl rfl rfl (StepS.move rfl) ?_
      refine TO.s rfl rfl rfl (StepS.ari rfl rfl rfl) ?_
      refine TO.s rfl rfl rfl (StepS.assign rfl) ?_
      cases hb18
      refine TO.nil fun a w e s => ?_
      exact ⟨e.sub (lk_of_allIn ⟨rfl, rfl, rfl, rfl, rfl, rfl, rfl, trivial⟩), s⟩
    · replace hb18 := cond_f hc19 hb18
      cases hb18
      refine TC.exit rfl fun a w e s => ?_
      exact ⟨e.sub (lk_of_allIn ⟨rfl, rfl, rfl, rfl, rfl, rfl, trivial⟩), s⟩
  · exact fun a w e s => ⟨e.sub (lk_of_allIn ⟨rfl, rfl, rfl, rfl, rfl, rfl, rfl, trivial⟩), s⟩
  · rintro y15 rfl a w ⟨he, hs⟩
    dsimp only [Ctl.on] at hm
    refine TC.use ?_ he hs
    refine TC.k ?_
    refine TC.region ?_
    refine TO.alloc kinfo_46_bind_zero_some_slice_none_0_0 rfl rfl fun b22 => ?_
    refine TO.code ?_
    refine TC.k ?_
    refine TC.region ?_
    refine TO.s rfl rfl rfl (StepS.move rfl) ?_
    obtain ⟨y23, hk24, hm⟩ := bind_some hm
    refine TO.mkS (f := cI) (za := 0) kelemB_23_3_1_8_true kinfo_3_bind_zero_some_I_0 rfl (by decide) rfl rfl hk24 rfl fun v25 => ?_
    refine TO.s rfl rfl rfl (StepS.assign rfl) ?_
    refine TO.code ?_
    refine TC.k ?_
    refine TC.region ?_
    refine TO.s rfl rfl rfl (StepS.mkfn rfl) ?_
    refine TO.s rfl rfl rfl (StepS.assign rfl) ?_
    refine TO.code ?_
    refine TC.k ?_
    refine TC.k ?_
    refine TC.region ?_
    refine TO.s rfl rfl rfl (StepS.move rfl) ?_
    refine TO.s rfl rfl rfl (StepS.move rfl) ?_
    refine TO.s rfl rfl rfl (StepS.move rfl) ?_
    obtain ⟨r27, hc28, hm⟩ := bind_some hm
    refine TO.callO kcallB_17_true rfl rfl rfl (fun _ st => C17 e1.tl.tl.tl.tl.tl hc28 st) ?_
    rintro v29 _ ⟨_, rfl, rfl⟩
    refine TO.s rfl rfl rfl (StepS.lenm rfl (OwnS.rd (Ent.at 0 rfl)) ksliceB_23_3_1_true rfl) ?_
    refine TO.s rfl rfl rfl (StepS.move rfl) ?_
    refine TO.code ?_
    obtain ⟨o45, hw46, hm⟩ := bind_some hm
    refine TC.loop hw46 (fun (y33, x34, x35) => fun a w => ∃ v31 : Value, Mid 171 B [(0, I a0), (1, h1), (2, I a2), (3, h3), (8, .pointer (some ⟨b3, 0, none⟩)), (9, .pointer (some ⟨b9, 0, none⟩)), (11, .pointer (some ⟨b22, 0, none⟩)), (12, v25), (13, .func (.func 16) #[] #[.pointer (some ⟨b22, 0, none⟩), .pointer (some ⟨b9, 0, none⟩)]), (39, v29), (40, I (r27.length : Int)), (41, I x35)] (OwnS 48 3 v31 (y33.map cTiii) :: OwnS 3 1 v29 (r27.map cI) :: OwnS 3 1 v25 (y23.map cI) :: Bx b22 46 [v31] :: Bx b9 26 [.slice none 0 0, v6, .bool false, I x34] :: OwnS 3 1 v6 (y15.map cI) :: Bx b3 26 [.slice none 0 0, .slice none 0 0, .bool false, I 0] :: L) a w) (fun (y43, x44) => fun a w => ∃ v41 : Value, Mid 171 B [(0, I a0), (1, h1), (2, I a2), (3, h3), (8, .pointer (some ⟨b3, 0, none⟩)), (9, .pointer (some ⟨b9, 0, none⟩)), (11, .pointer (some ⟨b22, 0, none⟩)), (12, v25), (13, .func (.func 16) #[] #[.pointer (some ⟨b22, 0, none⟩), .pointer (some ⟨b9, 0, none⟩)])] (OwnS 48 3 v41 (y43.map cTiii) :: OwnS 3 1 v29 (r27.map cI) :: OwnS 3 1 v25 (y23.map cI) :: Bx b22 46 [v41] :: Bx b9 26 [.slice none 0 0, v6, .bool false, I x44] :: OwnS 3 1 v6 (y15.map cI) :: Bx b3 26 [.slice none 0 0, .slice none 0 0, .bool false, I 0] :: L) a w) (fun (_ : Unit) _ _ => False) ?_ ?_ ?_ ?_
    · rintro ⟨y33, x34, x35⟩ o45r hb47 a w ⟨v31, he, hs⟩
      dsimp only [F7_L1] at hb47
      refine TC.use ?_ he hs
      refine TC.k ?_
      refine TC.region ?_
      refine TO.s rfl rfl rfl (StepS.cmp rfl rfl rfl) ?_
      refine TO.code ?_
      refine TC.k ?_
      refine TC.cond rfl (fun hc48 => ?_) (fun hc48 => ?_)
      · replace hb47 := cond_t hc48 hb47
        refine TC.skipk ?_
        refine TC.k ?_
        refine TC.block ?_
        refine TC.k ?_
        refine TC.region ?_
        obtain ⟨x49, hx50, hb47⟩ := bind_some hb47
        refine TO.s rfl rfl rfl (StepS.idx rfl rfl (OwnS.rd (Ent.at 1 rfl)) ksliceB_23_3_1_true (idx_spec hx50).1 (idxm_lt hx50)) ?_
        refine TO.s rfl rfl rfl (StepS.ld0 rfl (OwnS.rd (Ent.at 1 rfl)) kscalB_3_true rfl (idxm hx50) rfl) ?_
        refine TO.s rfl rfl rfl (StepS.assign rfl) ?_
        refine TO.code ?_
        refine TC.region ?_
        refine TO.s rfl rfl rfl (StepS.move rfl) ?_
        refine TO.s rfl rfl rfl (StepS.move rfl) ?_
        refine TO.s rfl rfl rfl (StepS.move rfl) ?_
        refine TO.ghost (fun _ s => Sat.front 4 rfl s) ?_
        refine TO.ghost (fun _ s => Sat.front 1 rfl s) ?_
        refine TO.ghost (fun _ s => Sat.front 4 rfl s) ?_
        obtain ⟨⟨r51, r52⟩, hc53, hb47⟩ := bind_some hb47
        refine TO.callOC kcallB_16_true rfl rfl rfl rfl (fun _ st => C16 (a2 := y33) (a3 := x34)  hc53 st) ?_
        rintro _ _ ⟨v54, rfl, rfl⟩
        refine TO.code ?_
        refine TC.region ?_
        refine TO.s rfl rfl rfl (StepS.ari rfl rfl rfl) ?_
        refine TO.s rfl rfl rfl (StepS.move rfl) ?_
        cases hb47
        refine TO.nil fun a w e s => ?_
        exact ⟨v54, e.sub (lk_of_allIn ⟨rfl, rfl, rfl, rfl, rfl, rfl, rfl, rfl, rfl, rfl, rfl, rfl, trivial⟩), s.mono fun _ s => (by exact Sat.by [6, 6, 4, 3, 6, 6, 6] 7 0 (by kernel_rfl) s)⟩
      · replace hb47 := cond_f hc48 hb47
        cases hb47
        refine TC.exit rfl fun a w e s => ?_
        exact ⟨v31, e.sub (lk_of_allIn ⟨rfl, rfl, rfl, rfl, rfl, rfl, rfl, rfl, rfl, trivial⟩), s⟩
    · exact fun a w e s => ⟨.slice none 0 0, e.sub (lk_of_allIn ⟨rfl, rfl, rfl, rfl, rfl, rfl, rfl, rfl, rfl, rfl, rfl, rfl, trivial⟩), s.mono fun _ s => (by replace s := Sat.nilS (e := 48) (sz := 3) (f := cTiii) s; exact Sat.by [6, 6, 6, 6, 6, 6, 6] 7 0 (by kernel_rfl) s)⟩
    · rintro ⟨y43, x44⟩ rfl a w ⟨v41, he, hs⟩
      dsimp only [Ctl.on] at hm
      refine TC.use ?_ he hs
      refine TC.k ?_
      refine TC.k ?_
      refine TC.region ?_
      refine TO.s rfl rfl rfl (StepS.move rfl) ?_
      refine TO.s rfl rfl rfl (StepS.lenm rfl e3.tl.tl.tl.tl.tl.tl.tl ksliceB_23_3_1_true rfl) ?_
      refine TO.s rfl rfl rfl (StepS.move rfl) ?_
      refine TO.code ?_
      obtain ⟨o85, hw86, hm⟩ := bind_some hm
      refine TC.loop hw86 (fun (y58, y61, y62, y63, x64, x65) => fun a w => ∃ v56 : Value, ∃ v59 : Value, Mid 171 B [(0, I a0), (1, h1), (2, I a2), (8, .pointer (some ⟨b3, 0, none⟩)), (9, .pointer (some ⟨b9, 0, none⟩)), (11, .pointer (some ⟨b22, 0, none⟩)), (12, v25), (13, .func (.func 16) #[] #[.pointer (some ⟨b22, 0, none⟩), .pointer (some ⟨b9, 0, none⟩)]), (50, h3), (51, I (a3.length : Int)), (52, I x65)] (OwnS 48 3 v56 (y58.map cTiii) :: OwnS 27 1 v59 (y61.map cI) :: OwnS 3 1 v29 (r27.map cI) :: OwnS 3 1 v25 (y62.map cI) :: Bx b22 46 [v56] :: Bx b9 26 [v59, v6, .bool false, I x64] :: OwnS 3 1 v6 (y63.map cI) :: Bx b3 26 [.slice none 0 0, .slice none 0 0, .bool false, I 0] :: L) a w) (fun (y78, y81, y82, y83, x84) => fun a w => ∃ v76 : Value, ∃ v79 : Value, Mid 171 B [(0, I a0), (1, h1), (2, I a2), (8, .pointer (some ⟨b3, 0, none⟩)), (9, .pointer (some ⟨b9, 0, none⟩)), (12, v25)] (OwnS 48 3 v76 (y78.map cTiii) :: OwnS 27 1 v79 (y81.map cI) :: OwnS 3 1 v29 (r27.map cI) :: OwnS 3 1 v25 (y82.map cI) :: Bx b22 46 [v76] :: Bx b9 26 [v79, v6, .bool false, I x84] :: OwnS 3 1 v6 (y83.map cI) :: Bx b3 26 [.slice none 0 0, .slice none 0 0, .bool false, I 0] :: L) a w) (fun (_ : Unit) _ _ => False) ?_ ?_ ?_ ?_
      · rintro ⟨y58, y61, y62, y63, x64, x65⟩ o85r hb87 a w ⟨v56, v59, he, hs⟩
        dsimp only [F7_L2] at hb87
        refine TC.use ?_ he hs
        refine TC.k ?_
        refine TC.region ?_
        refine TO.s rfl rfl rfl (StepS.cmp rfl rfl rfl) ?_
        refine TO.code ?_
        refine TC.k ?_
        refine TC.cond rfl (fun hc88 => ?_) (fun hc88 => ?_)
        · replace hb87 := cond_t hc88 hb87
          refine TC.skipk ?_
          refine TC.k ?_
          obtain ⟨⟨y91, y92, y94, y95, x96⟩, hj97, hb87⟩ := bind_some hb87
          first | refine TC.cutM (fun a w => ∃ v89 : Value, ∃ v93 : Value, Mid 171 B [(0, I a0), (1, h1), (2, I a2), (8, .pointer (some ⟨b3, 0, none⟩)), (9, .pointer (some ⟨b9, 0, none⟩)), (11, .pointer (some ⟨b22, 0, none⟩)), (12, v25), (13, .func (.func 16) #[] #[.pointer (some ⟨b22, 0, none⟩), .pointer (some ⟨b9, 0, none⟩)]), (50, h3), (51, I (a3.length : Int)), (52, I x65)] (OwnS 48 3 v89 (y91.map cTiii) :: OwnS 27 1 v93 (y92.map cI) :: OwnS 3 1 v29 (r27.map cI) :: OwnS 3 1 v25 (y94.map cI) :: Bx b22 46 [v89] :: Bx b9 26 [v93, v6, .bool false, I x96] :: OwnS 3 1 v6 (y95.map cI) :: Bx b3 26 [.slice none 0 0, .slice none 0 0, .bool false, I 0] :: L) a w) ?_ ?_ | refine TC.cutX (fun a w => ∃ v89 : Value, ∃ v93 : Value, Mid 171 B [(0, I a0), (1, h1), (2, I a2), (8, .pointer (some ⟨b3, 0, none⟩)), (9, .pointer (some ⟨b9, 0, none⟩)), (11, .pointer (some ⟨b22, 0, none⟩)), (12, v25), (13, .func (.func 16) #[] #[.pointer (some ⟨b22, 0, none⟩), .pointer (some ⟨b9, 0, none⟩)]), (50, h3), (51, I (a3.length : Int)), (52, I x65)] (OwnS 48 3 v89 (y91.map cTiii) :: OwnS 27 1 v93 (y92.map cI) :: OwnS 3 1 v29 (r27.map cI) :: OwnS 3 1 v25 (y94.map cI) :: Bx b22 46 [v89] :: Bx b9 26 [v93, v6, .bool false, I x96] :: OwnS 3 1 v6 (y95.map cI) :: Bx b3 26 [.slice none 0 0, .slice none 0 0, .bool false, I 0] :: L) a w) ?_ ?_
          · refine TC.block ?_
            refine TC.k ?_
            refine TC.region ?_
            obtain ⟨x98, hx99, hj97⟩ := bind_some hj97
            refine TO.s rfl rfl rfl (StepS.idx rfl rfl e3.tl.tl.tl.tl.tl.tl.tl.tl ksliceB_23_3_1_true (idx_spec hx99).1 (idxm_lt hx99)) ?_
            refine TO.s rfl rfl rfl (StepS.ld0 rfl e3.tl.tl.tl.tl.tl.tl.tl.tl kscalB_3_true rfl (idxm hx99) rfl) ?_
            refine TO.s rfl rfl rfl (StepS.assign rfl) ?_
            refine TO.code ?_
            refine TC.k ?_
            refine TC.k ?_
            refine TC.region ?_
            refine TO.s rfl rfl rfl (StepS.move rfl) ?_
            refine TO.s rfl rfl rfl (StepS.cmp rfl rfl rfl) ?_
            refine TO.s rfl rfl rfl (StepS.move rfl) ?_
            refine TO.mid1 5 63 (.bool ((decide (x98 < 0)) || (decide (x98 ≥ (y58.length : Int))))) ?_ ?_
            · refine bcase ((decide (x98 < 0))) (fun hb100 => ?_) (fun hb100 => ?_)
              · refine TO.skip rfl rfl rfl (skipT hb100) rfl rfl ?_
                refine TO.skip rfl rfl rfl (skipT hb100) rfl rfl ?_
                refine TO.skip rfl rfl rfl (skipT hb100) rfl rfl ?_
                refine TO.skip rfl rfl rfl (skipT hb100) rfl rfl ?_
                refine TO.s rfl rfl rfl (StepS.pickT rfl hb100 rfl) ?_
                exact TO.up1 5 0 rfl rfl (by rw [hb100]; rfl) rfl
              · refine TO.sw rfl rfl rfl hb100 rfl rfl (StepS.move rfl) ?_
                refine TO.sw rfl rfl rfl hb100 rfl rfl (StepS.ldB rfl (Ent.at 4 rfl) kscalB_46_true rfl) ?_
                refine TO.sw rfl rfl rfl hb100 rfl rfl (StepS.lenm rfl (OwnS.rd (Ent.at 0 rfl)) ksliceB_46_48_3_true rfl) ?_
                refine TO.sw rfl rfl rfl hb100 rfl rfl (StepS.cmp rfl rfl rfl) ?_
                refine TO.s rfl rfl rfl (StepS.pickF rfl hb100 rfl) ?_
                exact TO.up1 5 0 rfl rfl (by rw [hb100]; rfl) rfl
            refine TO.code ?_
            refine TC.cond rfl (fun hc101 => ?_) (fun hc101 => ?_)
            · replace hj97 := cond_t hc101 hj97
              refine TC.k ?_
              refine TC.region ?_
              refine TO.s rfl rfl rfl (StepS.fld rfl kfieldB_26_0_0_true) ?_
              refine TO.s rfl rfl rfl (StepS.ldB rfl (Ent.at 5 rfl) kscalB_24_true rfl) ?_
              refine TO.litS (f := cI) ([4] : List Int) kelemB_24_27_1_8_true kinfo_27_bind_zero_some_I_0 rfl rfl (fun _ => rfl) rfl rfl (by kernel_rfl) rfl fun v102 => ?_
              obtain ⟨y104, hk105, hj97⟩ := bind_some hj97
              refine TO.app (k := 2) (f := cI) kelemB_24_27_1_8_true (by decide) rfl rfl rfl (OwnS.rd (Ent.at 0 rfl)) hk105 (fun x c hc => by simp [Value.oneCell'] at hc ⊢; first | (obtain rfl := hc; rfl) | (rcases hc with rfl <;> rfl)) rfl rfl fun v106 => ?_
              refine TO.s rfl rfl rfl (StepS.fld rfl kfieldB_26_0_0_true) ?_
              refine TO.pure (fun _ s => Rd.one (OwnS.rd (Ent.at 2 rfl)) s) fun oc107 => ?_
              refine TO.stB (us := [v106]) 6 [v106, v6, .bool false, I x64] rfl rfl rfl ksizeB_24_1_true oc107.2 rfl rfl (by intro u hu; simp only [List.mem_cons, List.not_mem_nil, or_false] at hu; rcases hu with rfl <;> first | exact oc107.1 | rfl) rfl ?_
              refine TO.code ?_
              cases hj97
              refine TC.exit rfl fun a w e s => ?_
              exact ⟨v56, v106, e.sub (lk_of_allIn ⟨rfl, rfl, rfl, rfl, rfl, rfl, rfl, rfl, rfl, rfl, rfl, trivial⟩), s.mono fun _ => Sat.dropN 1⟩
            · replace hj97 := cond_f hc101 hj97
              refine TC.skipk ?_
              refine TC.k ?_
              refine TC.region ?_
              refine TO.s rfl rfl rfl (StepS.ldB rfl (Ent.at 4 rfl) kscalB_46_true rfl) ?_
              refine TO.s rfl rfl rfl (StepS.move rfl) ?_
              obtain ⟨x108, hx109, hj97⟩ := bind_some hj97
              refine TO.s rfl rfl rfl (StepS.idx rfl rfl (OwnS.rd (Ent.at 0 rfl)) ksliceB_46_48_3_true (idx_spec hx109).1 (idxm_lt hx109)) ?_
              refine TO.s rfl rfl rfl (StepS.ldE rfl (OwnS.rd (Ent.at 0 rfl)) kaggB_48_3_true rfl (idxm hx109)) ?_
              refine TO.alloc kinfo_48_bind_zero_some_agg_I_0_I_0_I_0 rfl rfl fun b110 => ?_
              refine TO.stB (us := [I x108.1, I x108.2.1, I x108.2.2]) 0 [I x108.1, I x108.2.1, I x108.2.2] rfl rfl rfl ksizeB_48_3_true rfl rfl rfl (by simp [Value.oneCell']) rfl ?_
              refine TO.code ?_
              refine TC.k ?_
              refine TC.region ?_
              refine TO.s rfl rfl rfl (StepS.ldB rfl (Ent.at 5 rfl) kscalB_46_true rfl) ?_
              refine TO.s rfl rfl rfl (StepS.move rfl) ?_
              obtain ⟨r111, hc112, hj97⟩ := bind_some hj97
              refine TO.callO kcallB_18_true rfl rfl rfl (fun _ st => C18 (OwnS.rd (Ent.at 1 rfl)) hc112 st) ?_
              rintro v113 _ ⟨_, rfl, rfl⟩
              refine TO.pure (fun _ s => Rd.one (OwnS.rd (Ent.at 0 rfl)) s) fun oc115 => ?_
              refine TO.stB (us := [v113]) 6 [v113] rfl rfl rfl ksizeB_46_1_true oc115.2 rfl rfl (by intro u hu; simp only [List.mem_cons, List.not_mem_nil, or_false] at hu; rcases hu with rfl <;> first | exact oc115.1 | rfl) rfl ?_
              refine TO.code ?_
              refine TC.k ?_
              refine TC.region_tail 10 kfollows_mixedOrders_true (by kernel_rfl) ?_
              refine TS.s rfl rfl rfl (StepS.move rfl) ?_
              refine TS.s rfl rfl rfl (StepS.fld rfl kfieldB_48_1_1_true) ?_
              refine TS.s rfl rfl rfl (StepS.ldB rfl (Ent.at 1 rfl) kscalB_3_true rfl) ?_
              refine TS.s rfl rfl rfl (StepS.move rfl) ?_
              refine TS.s rfl rfl rfl (StepS.fld rfl kfieldB_48_1_1_true) ?_
              refine TS.s rfl rfl rfl (StepS.ldB rfl (Ent.at 1 rfl) kscalB_3_true rfl) ?_
              obtain ⟨x116, hx117, hj97⟩ := bind_some hj97
              refine TS.s rfl rfl rfl (StepS.idx rfl rfl (OwnS.rd (Ent.at 5 rfl)) ksliceB_23_3_1_true (idx_spec hx117).1 (idxm_lt hx117)) ?_
              refine TS.s rfl rfl rfl (StepS.ld0 rfl (OwnS.rd (Ent.at 5 rfl)) kscalB_3_true rfl (idxm hx117) rfl) ?_
              refine TS.s rfl rfl rfl (StepS.ari rfl rfl rfl) ?_
              obtain ⟨x118, hx119, hj97⟩ := bind_some hj97
              refine TS.s rfl rfl rfl (StepS.idx rfl rfl (OwnS.rd (Ent.at 5 rfl)) ksliceB_23_3_1_true (idx_spec hx119).1 (idxm_lt hx119)) ?_
              refine TS.nil ?_
              refine TO.at ?_
              refine TO.stO (i := x108.2.1.toNat) (off := 0) (us := [I (w64 (x116 + 1))]) 5 (w64 (x116 + 1)) rfl rfl rfl ksizeB_3_1_true rfl rfl rfl (idx_spec hx119).2 rfl (by simp [Value.oneCell']) rfl ?_
              refine TO.code ?_
              refine TC.k ?_
              refine TC.k ?_
              refine TC.region ?_
              refine TO.s rfl rfl rfl (StepS.fld rfl kfieldB_48_1_1_true) ?_
              refine TO.s rfl rfl rfl (StepS.ldB rfl (Ent.at 1 rfl) kscalB_3_true rfl) ?_
              refine TO.s rfl rfl rfl (StepS.move rfl) ?_
              refine TO.s rfl rfl rfl (StepS.cmp rfl rfl rfl) ?_
              refine TO.s rfl rfl rfl (StepS.move rfl) ?_
              obtain ⟨b121, hj122, hj97⟩ := bind_some hj97
              refine TO.mid1 7 97 (.bool b121) ?_ ?_
              · refine bcase ((x108.2.1 != a2)) (fun hb120 => ?_) (fun hb120 => ?_)
                · replace hj122 := cond_t hb120 hj122
                  refine TO.sw rfl rfl rfl hb120 rfl rfl (StepS.move rfl) ?_
                  refine TO.sw rfl rfl rfl hb120 rfl rfl (StepS.fld rfl kfieldB_48_1_1_true) ?_
                  refine TO.sw rfl rfl rfl hb120 rfl rfl (StepS.ldB rfl (Ent.at 1 rfl) kscalB_3_true rfl) ?_
                  obtain ⟨x123, hx124, hj122⟩ := bind_some hj122
                  refine TO.sw rfl rfl rfl hb120 rfl rfl (StepS.idx rfl rfl (OwnS.rd (Ent.at 5 rfl)) ksliceB_23_3_1_true (idx_spec hx124).1 (idxm_lt hx124)) ?_
                  refine TO.sw rfl rfl rfl hb120 rfl rfl (StepS.ld0 rfl (OwnS.rd (Ent.at 5 rfl)) kscalB_3_true rfl (idxm hx124) rfl) ?_
                  refine TO.sw rfl rfl rfl hb120 rfl rfl (StepS.cmp rfl rfl rfl) ?_
                  cases hj122
                  refine TO.s rfl rfl rfl (StepS.pickT rfl hb120 rfl) ?_
                  exact TO.up1 7 0 rfl rfl rfl rfl
                · replace hj122 := cond_f hb120 hj122
                  cases hj122
                  refine TO.skip rfl rfl rfl (skipF hb120) rfl rfl ?_
                  refine TO.skip rfl rfl rfl (skipF hb120) rfl rfl ?_
                  refine TO.skip rfl rfl rfl (skipF hb120) rfl rfl ?_
                  refine TO.skip rfl rfl rfl (skipF hb120) rfl rfl ?_
                  refine TO.skip rfl rfl rfl (skipF hb120) rfl rfl ?_
                  refine TO.skip rfl rfl rfl (skipF hb120) rfl rfl ?_
                  refine TO.s rfl rfl rfl (StepS.pickF rfl hb120 rfl) ?_
                  exact TO.up1 7 0 rfl rfl rfl rfl
              refine TO.code ?_
              obtain ⟨⟨y127, y128, x129⟩, hj130, hj97⟩ := bind_some hj97
              first | refine TC.cutM (fun a w => ∃ v125 : Value, Mid 171 B [(0, I a0), (1, h1), (2, I a2), (8, .pointer (some ⟨b3, 0, none⟩)), (9, .pointer (some ⟨b9, 0, none⟩)), (11, .pointer (some ⟨b22, 0, none⟩)), (12, v25), (13, .func (.func 16) #[] #[.pointer (some ⟨b22, 0, none⟩), .pointer (some ⟨b9, 0, none⟩)]), (18, .pointer (some ⟨b110, 0, none⟩)), (50, h3), (51, I (a3.length : Int)), (52, I x65)] (OwnS 48 3 v125 (y127.map cTiii) :: Bx b110 48 [I x108.1, I x108.2.1, I x108.2.2] :: OwnS 48 3 v56 (y58.map cTiii) :: OwnS 27 1 v59 (y61.map cI) :: OwnS 3 1 v29 (r27.map cI) :: OwnS 3 1 v25 ((y62.set x108.2.1.toNat (w64 (x116 + 1))).map cI) :: Bx b22 46 [v125] :: Bx b9 26 [v59, v6, .bool false, I x129] :: OwnS 3 1 v6 (y128.map cI) :: Bx b3 26 [.slice none 0 0, .slice none 0 0, .bool false, I 0] :: L) a w) ?_ ?_ | refine TC.cutX (fun a w => ∃ v125 : Value, Mid 171 B [(0, I a0), (1, h1), (2, I a2), (8, .pointer (some ⟨b3, 0, none⟩)), (9, .pointer (some ⟨b9, 0, none⟩)), (11, .pointer (some ⟨b22, 0, none⟩)), (12, v25), (13, .func (.func 16) #[] #[.pointer (some ⟨b22, 0, none⟩), .pointer (some ⟨b9, 0, none⟩)]), (18, .pointer (some ⟨b110, 0, none⟩)), (50, h3), (51, I (a3.length : Int)), (52, I x65)] (OwnS 48 3 v125 (y127.map cTiii) :: Bx b110 48 [I x108.1, I x108.2.1, I x108.2.2] :: OwnS 48 3 v56 (y58.map cTiii) :: OwnS 27 1 v59 (y61.map cI) :: OwnS 3 1 v29 (r27.map cI) :: OwnS 3 1 v25 ((y62.set x108.2.1.toNat (w64 (x116 + 1))).map cI) :: Bx b22 46 [v125] :: Bx b9 26 [v59, v6, .bool false, I x129] :: OwnS 3 1 v6 (y128.map cI) :: Bx b3 26 [.slice none 0 0, .slice none 0 0, .bool false, I 0] :: L) a w) ?_ ?_
              · refine TC.cond rfl (fun hc131 => ?_) (fun hc131 => ?_)
                · replace hj130 := cond_t hc131 hj130
                  refine TC.k ?_
                  refine TC.region ?_
                  refine TO.s rfl rfl rfl (StepS.fld rfl kfieldB_26_1_1_true) ?_
                  refine TO.s rfl rfl rfl (StepS.ldB rfl (Ent.at 7 rfl) kscalB_23_true rfl) ?_
                  refine TO.s rfl rfl rfl (StepS.fld rfl kfieldB_48_1_1_true) ?_
                  refine TO.s rfl rfl rfl (StepS.ldB rfl (Ent.at 1 rfl) kscalB_3_true rfl) ?_
                  refine TO.s rfl rfl rfl (StepS.fld rfl kfieldB_48_0_0_true) ?_
                  refine TO.s rfl rfl rfl (StepS.ldB rfl (Ent.at 1 rfl) kscalB_3_true rfl) ?_
                  obtain ⟨x132, hx133, hj130⟩ := bind_some hj130
                  refine TO.s rfl rfl rfl (StepS.idx rfl rfl (OwnS.rd (Ent.at 8 rfl)) ksliceB_23_3_1_true (idx_spec hx133).1 (idxm_lt hx133)) ?_
                  refine TO.stO (i := x108.2.1.toNat) (off := 0) (us := [I x108.1]) 8 x108.1 rfl rfl rfl ksizeB_3_1_true rfl rfl rfl (idx_spec hx133).2 rfl (by simp [Value.oneCell']) rfl ?_
                  refine TO.code ?_
                  refine TC.k ?_
                  refine TC.region ?_
                  refine TO.s rfl rfl rfl (StepS.move rfl) ?_
                  refine TO.s rfl rfl rfl (StepS.move rfl) ?_
                  refine TO.s rfl rfl rfl (StepS.fld rfl kfieldB_48_1_1_true) ?_
                  refine TO.s rfl rfl rfl (StepS.ldB rfl (Ent.at 1 rfl) kscalB_3_true rfl) ?_
                  obtain ⟨r134, hc135, hj130⟩ := bind_some hj130
                  refine TO.callO kcallB_17_true rfl rfl rfl (fun _ st => C17 e1.tl.tl.tl.tl.tl.tl.tl.tl.tl.tl hc135 st) ?_
                  rintro v136 _ ⟨_, rfl, rfl⟩
                  refine TO.s rfl rfl rfl (StepS.lenm rfl (OwnS.rd (Ent.at 0 rfl)) ksliceB_23_3_1_true rfl) ?_
                  refine TO.s rfl rfl rfl (StepS.move rfl) ?_
                  refine TO.code ?_
                  obtain ⟨o152, hw153, hj130⟩ := bind_some hj130
                  refine TC.loop hw153 (fun (y140, x141, x142) => fun a w => ∃ v138 : Value, Mid 171 B [(0, I a0), (1, h1), (2, I a2), (8, .pointer (some ⟨b3, 0, none⟩)), (9, .pointer (some ⟨b9, 0, none⟩)), (11, .pointer (some ⟨b22, 0, none⟩)), (12, v25), (13, .func (.func 16) #[] #[.pointer (some ⟨b22, 0, none⟩), .pointer (some ⟨b9, 0, none⟩)]), (18, .pointer (some ⟨b110, 0, none⟩)), (50, h3), (51, I (a3.length : Int)), (52, I x65), (109, v136), (110, I (r134.length : Int)), (111, I x142)] (OwnS 48 3 v138 (y140.map cTiii) :: OwnS 3 1 v136 (r134.map cI) :: Bx b110 48 [I x108.1, I x108.2.1, I x108.2.2] :: OwnS 48 3 v56 (y58.map cTiii) :: OwnS 27 1 v59 (y61.map cI) :: OwnS 3 1 v29 (r27.map cI) :: OwnS 3 1 v25 ((y62.set x108.2.1.toNat (w64 (x116 + 1))).map cI) :: Bx b22 46 [v138] :: Bx b9 26 [v59, v6, .bool false, I x141] :: OwnS 3 1 v6 ((y63.set x108.2.1.toNat x108.1).map cI) :: Bx b3 26 [.slice none 0 0, .slice none 0 0, .bool false, I 0] :: L) a w) (fun (y150, x151) => fun a w => ∃ v148 : Value, Mid 171 B [(0, I a0), (1, h1), (2, I a2), (8, .pointer (some ⟨b3, 0, none⟩)), (9, .pointer (some ⟨b9, 0, none⟩)), (11, .pointer (some ⟨b22, 0, none⟩)), (12, v25), (13, .func (.func 16) #[] #[.pointer (some ⟨b22, 0, none⟩), .pointer (some ⟨b9, 0, none⟩)]), (18, .pointer (some ⟨b110, 0, none⟩)), (50, h3), (51, I (a3.length : Int)), (52, I x65)] (OwnS 48 3 v148 (y150.map cTiii) :: OwnS 3 1 v136 (r134.map cI) :: Bx b110 48 [I x108.1, I x108.2.1, I x108.2.2] :: OwnS 48 3 v56 (y58.map cTiii) :: OwnS 27 1 v59 (y61.map cI) :: OwnS 3 1 v29 (r27.map cI) :: OwnS 3 1 v25 ((y62.set x108.2.1.toNat (w64 (x116 + 1))).map cI) :: Bx b22 46 [v148] :: Bx b9 26 [v59, v6, .bool false, I x151] :: OwnS 3 1 v6 ((y63.set x108.2.1.toNat x108.1).map cI) :: Bx b3 26 [.slice none 0 0, .slice none 0 0, .bool false, I 0] :: L) a w) (fun (_ : Unit) _ _ => False) ?_ ?_ ?_ ?_
                  · rintro ⟨y140, x141, x142⟩ o152r hb154 a w ⟨v138, he, hs⟩
                    dsimp only [F7_L3] at hb154
                    refine TC.use ?_ he hs
                    refine TC.k ?_
                    refine TC.region ?_
                    refine TO.s rfl rfl rfl (StepS.cmp rfl rfl rfl) ?_
                    refine TO.code ?_
                    refine TC.k ?_
                    refine TC.cond rfl (fun hc155 => ?_) (fun hc155 => ?_)
                    · replace hb154 := cond_t hc155 hb154
                      refine TC.skipk ?_
                      refine TC.k ?_
                      obtain ⟨⟨y158, x159⟩, hj160, hb154⟩ := bind_some hb154
                      first | refine TC.cutM (fun a w => ∃ v156 : Value, Mid 171 B [(0, I a0), (1, h1), (2, I a2), (8, .pointer (some ⟨b3, 0, none⟩)), (9, .pointer (some ⟨b9, 0, none⟩)), (11, .pointer (some ⟨b22, 0, none⟩)), (12, v25), (13, .func (.func 16) #[] #[.pointer (some ⟨b22, 0, none⟩), .pointer (some ⟨b9, 0, none⟩)]), (18, .pointer (some ⟨b110, 0, none⟩)), (50, h3), (51, I (a3.length : Int)), (52, I x65), (109, v136), (110, I (r134.length : Int)), (111, I x142)] (OwnS 48 3 v156 (y158.map cTiii) :: OwnS 3 1 v136 (r134.map cI) :: Bx b110 48 [I x108.1, I x108.2.1, I x108.2.2] :: OwnS 48 3 v56 (y58.map cTiii) :: OwnS 27 1 v59 (y61.map cI) :: OwnS 3 1 v29 (r27.map cI) :: OwnS 3 1 v25 ((y62.set x108.2.1.toNat (w64 (x116 + 1))).map cI) :: Bx b22 46 [v156] :: Bx b9 26 [v59, v6, .bool false, I x159] :: OwnS 3 1 v6 ((y63.set x108.2.1.toNat x108.1).map cI) :: Bx b3 26 [.slice none 0 0, .slice none 0 0, .bool false, I 0] :: L) a w) ?_ ?_ | refine TC.cutX (fun a w => ∃ v156 : Value, Mid 171 B [(0, I a0), (1, h1), (2, I a2), (8, .pointer (some ⟨b3, 0, none⟩)), (9, .pointer (some ⟨b9, 0, none⟩)), (11, .pointer (some ⟨b22, 0, none⟩)), (12, v25), (13, .func (.func 16) #[] #[.pointer (some ⟨b22, 0, none⟩), .pointer (some ⟨b9, 0, none⟩)]), (18, .pointer (some ⟨b110, 0, none⟩)), (50, h3), (51, I (a3.length : Int)), (52, I x65), (109, v136), (110, I (r134.length : Int)), (111, I x142)] (OwnS 48 3 v156 (y158.map cTiii) :: OwnS 3 1 v136 (r134.map cI) :: Bx b110 48 [I x108.1, I x108.2.1, I x108.2.2] :: OwnS 48 3 v56 (y58.map cTiii) :: OwnS 27 1 v59 (y61.map cI) :: OwnS 3 1 v29 (r27.map cI) :: OwnS 3 1 v25 ((y62.set x108.2.1.toNat (w64 (x116 + 1))).map cI) :: Bx b22 46 [v156] :: Bx b9 26 [v59, v6, .bool false, I x159] :: OwnS 3 1 v6 ((y63.set x108.2.1.toNat x108.1).map cI) :: Bx b3 26 [.slice none 0 0, .slice none 0 0, .bool false, I 0] :: L) a w) ?_ ?_
                      · refine TC.block ?_
                        refine TC.k ?_
                        refine TC.region ?_
                        obtain ⟨x161, hx162, hj160⟩ := bind_some hj160
                        refine TO.s rfl rfl rfl (StepS.idx rfl rfl (OwnS.rd (Ent.at 1 rfl)) ksliceB_23_3_1_true (idx_spec hx162).1 (idxm_lt hx162)) ?_
                        refine TO.s rfl rfl rfl (StepS.ld0 rfl (OwnS.rd (Ent.at 1 rfl)) kscalB_3_true rfl (idxm hx162) rfl) ?_
                        refine TO.s rfl rfl rfl (StepS.assign rfl) ?_
                        refine TO.code ?_
                        refine TC.k ?_
                        refine TC.region ?_
                        refine TO.s rfl rfl rfl (StepS.move rfl) ?_
                        refine TO.s rfl rfl rfl (StepS.fld rfl kfieldB_48_0_0_true) ?_
                        refine TO.s rfl rfl rfl (StepS.ldB rfl (Ent.at 2 rfl) kscalB_3_true rfl) ?_
                        refine TO.s rfl rfl rfl (StepS.cmp rfl rfl rfl) ?_
                        refine TO.code ?_
                        refine TC.cond rfl (fun hc163 => ?_) (fun hc163 => ?_)
                        · replace hj160 := cond_t hc163 hj160
                          refine TC.region ?_
                          refine TO.s rfl rfl rfl (StepS.move rfl) ?_
                          refine TO.s rfl rfl rfl (StepS.fld rfl kfieldB_48_1_1_true) ?_
                          refine TO.s rfl rfl rfl (StepS.ldB rfl (Ent.at 2 rfl) kscalB_3_true rfl) ?_
                          refine TO.s rfl rfl rfl (StepS.move rfl) ?_
                          refine TO.ghost (fun _ s => Sat.front 8 rfl s) ?_
                          refine TO.ghost (fun _ s => Sat.front 1 rfl s) ?_
                          refine TO.ghost (fun _ s => Sat.front 8 rfl s) ?_
                          obtain ⟨⟨r164, r165⟩, hc166, hj160⟩ := bind_some hj160
                          refine TO.callOC kcallB_16_true rfl rfl rfl rfl (fun _ st => C16 (a2 := y140) (a3 := x141)  hc166 st) ?_
                          rintro _ _ ⟨v167, rfl, rfl⟩
                          cases hj160
                          refine TO.nil fun a w e s => ?_
                          exact ⟨v167, e.sub (lk_of_allIn ⟨rfl, rfl, rfl, rfl, rfl, rfl, rfl, rfl, rfl, rfl, rfl, rfl, rfl, rfl, rfl, trivial⟩), s.mono fun _ s => (by exact Sat.by [10, 10, 4, 3, 10, 10, 10, 10, 10, 10, 10] 11 0 (by kernel_rfl) s)⟩
                        · replace hj160 := cond_f hc163 hj160
                          cases hj160
                          refine TC.skip fun a w e s => ?_
                          exact ⟨v138, e.sub (lk_of_allIn ⟨rfl, rfl, rfl, rfl, rfl, rfl, rfl, rfl, rfl, rfl, rfl, rfl, rfl, rfl, rfl, trivial⟩), s⟩
                      · intro a w ⟨v156, he, hs⟩
                        refine TC.use ?_ he hs
                        refine TC.region ?_
                        refine TO.s rfl rfl rfl (StepS.ari rfl rfl rfl) ?_
                        refine TO.s rfl rfl rfl (StepS.move rfl) ?_
                        cases hb154
                        refine TO.nil fun a w e s => ?_
                        exact ⟨v156, e.sub (lk_of_allIn ⟨rfl, rfl, rfl, rfl, rfl, rfl, rfl, rfl, rfl, rfl, rfl, rfl, rfl, rfl, rfl, trivial⟩), s⟩
                    · replace hb154 := cond_f hc155 hb154
                      cases hb154
                      refine TC.exit rfl fun a w e s => ?_
                      exact ⟨v138, e.sub (lk_of_allIn ⟨rfl, rfl, rfl, rfl, rfl, rfl, rfl, rfl, rfl, rfl, rfl, rfl, trivial⟩), s⟩
                  · exact fun a w e s => ⟨v113, e.sub (lk_of_allIn ⟨rfl, rfl, rfl, rfl, rfl, rfl, rfl, rfl, rfl, rfl, rfl, rfl, rfl, rfl, rfl, trivial⟩), s.mono fun _ s => (by exact Sat.by [10, 10, 10, 10, 10, 10, 10, 10, 10, 9, 10] 11 0 (by kernel_rfl) s)⟩
                  · rintro ⟨y150, x151⟩ rfl a w ⟨v148, he, hs⟩
                    dsimp only [Ctl.on] at hj130
                    cases hj130
                    have e := he; have s := hs
                    exact ⟨v148, e.sub (lk_of_allIn ⟨rfl, rfl, rfl, rfl, rfl, rfl, rfl, rfl, rfl, rfl, rfl, rfl, trivial⟩), s.mono fun _ s => (by exact Sat.by [10, 10, 10, 10, 10, 10, 10, 10, 10, 9] 10 1 (by kernel_rfl) s)⟩
                  · rintro r rfl
                    exact fun a w h => h.elim
                · replace hj130 := cond_f hc131 hj130
                  cases hj130
                  refine TC.skip fun a w e s => ?_
                  exact ⟨v113, e.sub (lk_of_allIn ⟨rfl, rfl, rfl, rfl, rfl, rfl, rfl, rfl, rfl, rfl, rfl, rfl, trivial⟩), s⟩
              · intro a w ⟨v125, he, hs⟩
                refine TC.use ?_ he hs
                refine TC.k ?_
                refine TC.k ?_
                obtain ⟨b170, hj171, hj97⟩ := bind_some hj97
                first | refine TC.cutM (fun a w => Mid 171 B [(0, I a0), (1, h1), (2, I a2), (8, .pointer (some ⟨b3, 0, none⟩)), (9, .pointer (some ⟨b9, 0, none⟩)), (11, .pointer (some ⟨b22, 0, none⟩)), (12, v25), (13, .func (.func 16) #[] #[.pointer (some ⟨b22, 0, none⟩), .pointer (some ⟨b9, 0, none⟩)]), (18, .pointer (some ⟨b110, 0, none⟩)), (50, h3), (51, I (a3.length : Int)), (52, I x65), (142, .bool b170)] (OwnS 48 3 v125 (y127.map cTiii) :: Bx b110 48 [I x108.1, I x108.2.1, I x108.2.2] :: OwnS 48 3 v56 (y58.map cTiii) :: OwnS 27 1 v59 (y61.map cI) :: OwnS 3 1 v29 (r27.map cI) :: OwnS 3 1 v25 ((y62.set x108.2.1.toNat (w64 (x116 + 1))).map cI) :: Bx b22 46 [v125] :: Bx b9 26 [v59, v6, .bool false, I x129] :: OwnS 3 1 v6 (y128.map cI) :: Bx b3 26 [.slice none 0 0, .slice none 0 0, .bool false, I 0] :: L) a w) ?_ ?_ | refine TC.cutX (fun a w => Mid 171 B [(0, I a0), (1, h1), (2, I a2), (8, .pointer (some ⟨b3, 0, none⟩)), (9, .pointer (some ⟨b9, 0, none⟩)), (11, .pointer (some ⟨b22, 0, none⟩)), (12, v25), (13, .func (.func 16) #[] #[.pointer (some ⟨b22, 0, none⟩), .pointer (some ⟨b9, 0, none⟩)]), (18, .pointer (some ⟨b110, 0, none⟩)), (50, h3), (51, I (a3.length : Int)), (52, I x65), (142, .bool b170)] (OwnS 48 3 v125 (y127.map cTiii) :: Bx b110 48 [I x108.1, I x108.2.1, I x108.2.2] :: OwnS 48 3 v56 (y58.map cTiii) :: OwnS 27 1 v59 (y61.map cI) :: OwnS 3 1 v29 (r27.map cI) :: OwnS 3 1 v25 ((y62.set x108.2.1.toNat (w64 (x116 + 1))).map cI) :: Bx b22 46 [v125] :: Bx b9 26 [v59, v6, .bool false, I x129] :: OwnS 3 1 v6 (y128.map cI) :: Bx b3 26 [.slice none 0 0, .slice none 0 0, .bool false, I 0] :: L) a w) ?_ ?_
                · refine TC.region_any (OwnS 48 3 v125 (y127.map cTiii) :: Bx b110 48 [I x108.1, I x108.2.1, I x108.2.2] :: OwnS 48 3 v56 (y58.map cTiii) :: OwnS 27 1 v59 (y61.map cI) :: OwnS 3 1 v29 (r27.map cI) :: OwnS 3 1 v25 ((y62.set x108.2.1.toNat (w64 (x116 + 1))).map cI) :: Bx b22 46 [v125] :: Bx b9 26 [v59, v6, .bool false, I x129] :: OwnS 3 1 v6 (y128.map cI) :: Bx b3 26 [.slice none 0 0, .slice none 0 0, .bool false, I 0] :: L) 18 18 kfollows_mixedOrders_true rfl ?_
                  refine TA.takeW 0 rfl rfl rfl rfl (StepS.fld rfl kfieldB_48_1_1_true) (by kernel_rfl) (by kernel_rfl) (by kernel_rfl) rfl (.inr (fun _ s => s)) ?_
                  refine TA.take 1 rfl rfl rfl rfl (StepS.ldB rfl (Ent.at 1 rfl) kscalB_3_true rfl) (by kernel_rfl) (by kernel_rfl) (by kernel_rfl) (by kernel_rfl) (by kernel_rfl) (fun _ s => s) ?_
                  refine TA.takeW 2 rfl rfl rfl rfl (StepS.move rfl) (by kernel_rfl) (by kernel_rfl) (by kernel_rfl) rfl (.inr (fun _ s => s)) ?_
                  refine TA.takeW 3 rfl rfl rfl rfl (StepS.cmp rfl rfl rfl) (by kernel_rfl) (by kernel_rfl) (by kernel_rfl) rfl (.inr (fun _ s => s)) ?_
                  refine TA.takeW 4 rfl rfl rfl rfl (StepS.move rfl) (by kernel_rfl) (by kernel_rfl) (by kernel_rfl) rfl (.inr (fun _ s => s)) ?_
                  refine bcase ((x108.2.1 != a2)) (fun hb172 => ?_) (fun hb172 => ?_)
                  · replace hj171 := cond_t hb172 hj171
                    refine TA.takeGW 5 rfl rfl rfl rfl hb172 rfl rfl (StepS.move rfl) (by kernel_rfl) (by kernel_rfl) (by kernel_rfl) rfl (.inr (fun _ s => s)) ?_
                    refine TA.takeGW 6 rfl rfl rfl rfl hb172 rfl rfl (StepS.fld rfl kfieldB_48_1_1_true) (by kernel_rfl) (by kernel_rfl) (by kernel_rfl) rfl (.inr (fun _ s => s)) ?_
                    refine TA.takeG 7 rfl rfl rfl rfl hb172 rfl rfl (StepS.ldB rfl (Ent.at 1 rfl) kscalB_3_true rfl) (by kernel_rfl) (by kernel_rfl) (by kernel_rfl) (by kernel_rfl) (by kernel_rfl) (fun _ s => s) ?_
                    obtain ⟨xq169_8_1, hxq169_8_2, hj171⟩ := bind_some hj171
                    refine TA.takeG 8 rfl rfl rfl rfl hb172 rfl rfl (StepS.idx rfl rfl (OwnS.rd (Ent.at 5 rfl)) ksliceB_23_3_1_true (idx_spec hxq169_8_2).1 (idxm_lt hxq169_8_2)) (by kernel_rfl) (by kernel_rfl) (by kernel_rfl) (by kernel_rfl) (by kernel_rfl) (fun _ s => s) ?_
                    refine TA.takeG 9 rfl rfl rfl rfl hb172 rfl rfl (StepS.ld0 rfl (OwnS.rd (Ent.at 5 rfl)) kscalB_3_true rfl (idxm hxq169_8_2) rfl) (by kernel_rfl) (by kernel_rfl) (by kernel_rfl) (by kernel_rfl) (by kernel_rfl) (fun _ s => s) ?_
                    refine TA.takeGW 10 rfl rfl rfl rfl hb172 rfl rfl (StepS.move rfl) (by kernel_rfl) (by kernel_rfl) (by kernel_rfl) rfl (.inr (fun _ s => s)) ?_
                    refine TA.takeGW 11 rfl rfl rfl rfl hb172 rfl rfl (StepS.move rfl) (by kernel_rfl) (by kernel_rfl) (by kernel_rfl) rfl (.inr (fun _ s => s)) ?_
                    refine TA.takeGW 12 rfl rfl rfl rfl hb172 rfl rfl (StepS.fld rfl kfieldB_48_1_1_true) (by kernel_rfl) (by kernel_rfl) (by kernel_rfl) rfl (.inr (fun _ s => s)) ?_
                    refine TA.takeG 13 rfl rfl rfl rfl hb172 rfl rfl (StepS.ldB rfl (Ent.at 1 rfl) kscalB_3_true rfl) (by kernel_rfl) (by kernel_rfl) (by kernel_rfl) (by kernel_rfl) (by kernel_rfl) (fun _ s => s) ?_
                    refine TA.all1 (i := 14) (by kernel_rfl) ?_
                    refine TB.of rfl ?_
                    obtain ⟨rq169_14_1, hcq169_14_2, hj171⟩ := bind_some hj171
                    refine TO.callOw rfl rfl hb172 kcallB_17_true rfl rfl rfl (fun _ st => C17 e1.tl.tl.tl.tl.tl.tl.tl.tl.tl.tl hcq169_14_2 st) ?_
                    rintro vq169_14_3 _ ⟨_, rfl, rfl⟩
                    refine TA.back (.inr (fun _ s => Sat.by [10, 10, 10, 10, 10, 10, 10, 10, 10, 10] 10 1 (by kernel_rfl) s)) ?_
                    refine TA.asL (L' := (OwnS 3 1 vq169_14_3 (rq169_14_1.map cI) :: OwnS 48 3 v125 (y127.map cTiii) :: Bx b110 48 [I x108.1, I x108.2.1, I x108.2.2] :: OwnS 48 3 v56 (y58.map cTiii) :: OwnS 27 1 v59 (y61.map cI) :: OwnS 3 1 v29 (r27.map cI) :: OwnS 3 1 v25 ((y62.set x108.2.1.toNat (w64 (x116 + 1))).map cI) :: Bx b22 46 [v125] :: Bx b9 26 [v59, v6, .bool false, I x129] :: OwnS 3 1 v6 (y128.map cI) :: Bx b3 26 [.slice none 0 0, .slice none 0 0, .bool false, I 0] :: L)) (listed' := #[true, true, true, true, true, true, true, true, true, true, true, true, true, true, true, false, false, false]) (by kernel_rfl) (by kernel_rfl) ?_
                    refine TA.all1 (i := 15) (by kernel_rfl) ?_
                    refine TB.of rfl ?_
                    refine TO.sw rfl rfl rfl hb172 rfl rfl (StepS.lenm rfl (OwnS.rd (Ent.at 0 rfl)) ksliceB_23_3_1_true rfl) ?_
                    refine TA.back (.inr (fun _ s => Sat.by [10, 10, 10, 10, 10, 10, 10, 10, 10, 10] 10 1 (by kernel_rfl) s)) ?_
                    refine TA.asL (L' := (OwnS 3 1 vq169_14_3 (rq169_14_1.map cI) :: OwnS 48 3 v125 (y127.map cTiii) :: Bx b110 48 [I x108.1, I x108.2.1, I x108.2.2] :: OwnS 48 3 v56 (y58.map cTiii) :: OwnS 27 1 v59 (y61.map cI) :: OwnS 3 1 v29 (r27.map cI) :: OwnS 3 1 v25 ((y62.set x108.2.1.toNat (w64 (x116 + 1))).map cI) :: Bx b22 46 [v125] :: Bx b9 26 [v59, v6, .bool false, I x129] :: OwnS 3 1 v6 (y128.map cI) :: Bx b3 26 [.slice none 0 0, .slice none 0 0, .bool false, I 0] :: L)) (listed' := #[true, true, true, true, true, true, true, true, true, true, true, true, true, true, true, true, false, false]) (by kernel_rfl) (by kernel_rfl) ?_
                    refine TA.takeGW 16 rfl rfl rfl rfl hb172 rfl rfl (StepS.cmp rfl rfl rfl) (by kernel_rfl) (by kernel_rfl) (by kernel_rfl) rfl (.inr (fun _ s => Sat.by [10, 10, 10, 10, 10, 10, 10, 10, 10, 10] 10 1 (by kernel_rfl) s)) ?_
                    refine TA.takeW 17 rfl rfl rfl rfl (StepS.pickT rfl hb172 rfl) (by kernel_rfl) (by kernel_rfl) (by kernel_rfl) rfl (.inr (fun _ s => Sat.by [10, 10, 10, 10, 10, 10, 10, 10, 10, 10] 10 1 (by kernel_rfl) s)) ?_
                    cases hj171
                    refine TA.nil (by kernel_rfl) fun a w e s => ?_
                    exact ⟨e.sub (lk_of_allIn ⟨rfl, rfl, rfl, rfl, rfl, rfl, rfl, rfl, rfl, rfl, rfl, rfl, rfl, trivial⟩), s.mono fun _ => Sat.dropN 1⟩
                  · replace hj171 := cond_f hb172 hj171
                    refine TA.skipG 5 rfl rfl rfl rfl (skipF hb172) rfl rfl (by kernel_rfl) (by kernel_rfl) (by kernel_rfl) rfl (.inr (fun _ s => s)) ?_
                    refine TA.skipG 6 rfl rfl rfl rfl (skipF hb172) rfl rfl (by kernel_rfl) (by kernel_rfl) (by kernel_rfl) rfl (.inr (fun _ s => s)) ?_
                    refine TA.skipG 7 rfl rfl rfl rfl (skipF hb172) rfl rfl (by kernel_rfl) (by kernel_rfl) (by kernel_rfl) rfl (.inr (fun _ s => s)) ?_
                    refine TA.skipG 8 rfl rfl rfl rfl (skipF hb172) rfl rfl (by kernel_rfl) (by kernel_rfl) (by kernel_rfl) rfl (.inr (fun _ s => s)) ?_
                    refine TA.skipG 9 rfl rfl rfl rfl (skipF hb172) rfl rfl (by kernel_rfl) (by kernel_rfl) (by kernel_rfl) rfl (.inr (fun _ s => s)) ?_
                    refine TA.skipG 10 rfl rfl rfl rfl (skipF hb172) rfl rfl (by kernel_rfl) (by kernel_rfl) (by kernel_rfl) rfl (.inr (fun _ s => s)) ?_
                    refine TA.skipG 11 rfl rfl rfl rfl (skipF hb172) rfl rfl (by kernel_rfl) (by kernel_rfl) (by kernel_rfl) rfl (.inr (fun _ s => s)) ?_
                    refine TA.skipG 12 rfl rfl rfl rfl (skipF hb172) rfl rfl (by kernel_rfl) (by kernel_rfl) (by kernel_rfl) rfl (.inr (fun _ s => s)) ?_
                    refine TA.skipG 13 rfl rfl rfl rfl (skipF hb172) rfl rfl (by kernel_rfl) (by kernel_rfl) (by kernel_rfl) rfl (.inr (fun _ s => s)) ?_
                    refine TA.skipG 14 rfl rfl rfl rfl (skipF hb172) rfl rfl (by kernel_rfl) (by kernel_rfl) (by kernel_rfl) rfl (.inr (fun _ s => s)) ?_
                    refine TA.skipG 15 rfl rfl rfl rfl (skipF hb172) rfl rfl (by kernel_rfl) (by kernel_rfl) (by kernel_rfl) rfl (.inr (fun _ s => s)) ?_
                    refine TA.skipG 16 rfl rfl rfl rfl (skipF hb172) rfl rfl (by kernel_rfl) (by kernel_rfl) (by kernel_rfl) rfl (.inr (fun _ s => s)) ?_
                    refine TA.takeW 17 rfl rfl rfl rfl (StepS.pickF rfl hb172 rfl) (by kernel_rfl) (by kernel_rfl) (by kernel_rfl) rfl (.inr (fun _ s => s)) ?_
                    cases hj171
                    refine TA.nil (by kernel_rfl) fun a w e s => ?_
                    exact ⟨e.sub (lk_of_allIn ⟨rfl, rfl, rfl, rfl, rfl, rfl, rfl, rfl, rfl, rfl, rfl, rfl, rfl, trivial⟩), s⟩
                · intro a w ⟨he, hs⟩
                  refine TC.use ?_ he hs
                  obtain ⟨⟨y175, x176⟩, hj177, hj97⟩ := bind_some hj97
                  first | refine TC.cutM (fun a w => ∃ v173 : Value, Mid 171 B [(0, I a0), (1, h1), (2, I a2), (8, .pointer (some ⟨b3, 0, none⟩)), (9, .pointer (some ⟨b9, 0, none⟩)), (11, .pointer (some ⟨b22, 0, none⟩)), (12, v25), (13, .func (.func 16) #[] #[.pointer (some ⟨b22, 0, none⟩), .pointer (some ⟨b9, 0, none⟩)]), (50, h3), (51, I (a3.length : Int)), (52, I x65)] (OwnS 48 3 v173 (y175.map cTiii) :: Bx b110 48 [I x108.1, I x108.2.1, I x108.2.2] :: OwnS 48 3 v56 (y58.map cTiii) :: OwnS 27 1 v59 (y61.map cI) :: OwnS 3 1 v29 (r27.map cI) :: OwnS 3 1 v25 ((y62.set x108.2.1.toNat (w64 (x116 + 1))).map cI) :: Bx b22 46 [v173] :: Bx b9 26 [v59, v6, .bool false, I x176] :: OwnS 3 1 v6 (y128.map cI) :: Bx b3 26 [.slice none 0 0, .slice none 0 0, .bool false, I 0] :: L) a w) ?_ ?_ | refine TC.cutX (fun a w => ∃ v173 : Value, Mid 171 B [(0, I a0), (1, h1), (2, I a2), (8, .pointer (some ⟨b3, 0, none⟩)), (9, .pointer (some ⟨b9, 0, none⟩)), (11, .pointer (some ⟨b22, 0, none⟩)), (12, v25), (13, .func (.func 16) #[] #[.pointer (some ⟨b22, 0, none⟩), .pointer (some ⟨b9, 0, none⟩)]), (50, h3), (51, I (a3.length : Int)), (52, I x65)] (OwnS 48 3 v173 (y175.map cTiii) :: Bx b110 48 [I x108.1, I x108.2.1, I x108.2.2] :: OwnS 48 3 v56 (y58.map cTiii) :: OwnS 27 1 v59 (y61.map cI) :: OwnS 3 1 v29 (r27.map cI) :: OwnS 3 1 v25 ((y62.set x108.2.1.toNat (w64 (x116 + 1))).map cI) :: Bx b22 46 [v173] :: Bx b9 26 [v59, v6, .bool false, I x176] :: OwnS 3 1 v6 (y128.map cI) :: Bx b3 26 [.slice none 0 0, .slice none 0 0, .bool false, I 0] :: L) a w) ?_ ?_
                  · refine TC.cond rfl (fun hc178 => ?_) (fun hc178 => ?_)
                    · replace hj177 := cond_t hc178 hj177
                      refine TC.region_tail 9 kfollows_mixedOrders_true (by kernel_rfl) ?_
                      refine TS.s rfl rfl rfl (StepS.move rfl) ?_
                      refine TS.s rfl rfl rfl (StepS.fld rfl kfieldB_48_1_1_true) ?_
                      refine TS.s rfl rfl rfl (StepS.ldB rfl (Ent.at 1 rfl) kscalB_3_true rfl) ?_
                      refine TS.s rfl rfl rfl (StepS.fld rfl kfieldB_26_1_1_true) ?_
                      refine TS.s rfl rfl rfl (StepS.ldB rfl (Ent.at 7 rfl) kscalB_23_true rfl) ?_
                      refine TS.s rfl rfl rfl (StepS.fld rfl kfieldB_48_1_1_true) ?_
                      refine TS.s rfl rfl rfl (StepS.ldB rfl (Ent.at 1 rfl) kscalB_3_true rfl) ?_
                      obtain ⟨x179, hx180, hj177⟩ := bind_some hj177
                      refine TS.s rfl rfl rfl (StepS.idx rfl rfl (OwnS.rd (Ent.at 8 rfl)) ksliceB_23_3_1_true (idx_spec hx180).1 (idxm_lt hx180)) ?_
                      refine TS.s rfl rfl rfl (StepS.ld0 rfl (OwnS.rd (Ent.at 8 rfl)) kscalB_3_true rfl (idxm hx180) rfl) ?_
                      refine TS.nil ?_
                      refine TO.at ?_
                      refine TO.ghost (fun _ s => Sat.front 7 rfl s) ?_
                      refine TO.ghost (fun _ s => Sat.front 1 rfl s) ?_
                      refine TO.ghost (fun _ s => Sat.front 7 rfl s) ?_
                      obtain ⟨⟨r181, r182⟩, hc183, hj177⟩ := bind_some hj177
                      refine TO.callOC kcallB_16_true rfl rfl rfl rfl (fun _ st => C16 (a2 := y127) (a3 := x129)  hc183 st) ?_
                      rintro _ _ ⟨v184, rfl, rfl⟩
                      cases hj177
                      refine TO.nil fun a w e s => ?_
                      exact ⟨v184, e.sub (lk_of_allIn ⟨rfl, rfl, rfl, rfl, rfl, rfl, rfl, rfl, rfl, rfl, rfl, trivial⟩), s.mono fun _ s => (by exact Sat.by [9, 9, 4, 3, 9, 9, 9, 9, 9, 9] 10 0 (by kernel_rfl) s)⟩
                    · replace hj177 := cond_f hc178 hj177
                      cases hj177
                      refine TC.skip fun a w e s => ?_
                      exact ⟨v125, e.sub (lk_of_allIn ⟨rfl, rfl, rfl, rfl, rfl, rfl, rfl, rfl, rfl, rfl, rfl, trivial⟩), s⟩
                  · intro a w ⟨v173, he, hs⟩
                    refine TC.use ?_ he hs
                    refine TC.region ?_
                    refine TO.s rfl rfl rfl (StepS.fld rfl kfieldB_26_0_0_true) ?_
                    refine TO.s rfl rfl rfl (StepS.ldB rfl (Ent.at 7 rfl) kscalB_24_true rfl) ?_
                    refine TO.litS (f := cI) ([0] : List Int) kelemB_24_27_1_8_true kinfo_27_bind_zero_some_I_0 rfl rfl (fun _ => rfl) rfl rfl (by kernel_rfl) rfl fun v186 => ?_
                    obtain ⟨y188, hk189, hj97⟩ := bind_some hj97
                    refine TO.app (k := 4) (f := cI) kelemB_24_27_1_8_true (by decide) rfl rfl rfl (OwnS.rd (Ent.at 0 rfl)) hk189 (fun x c hc => by simp [Value.oneCell'] at hc ⊢; first | (obtain rfl := hc; rfl) | (rcases hc with rfl <;> rfl)) rfl rfl fun v190 => ?_
                    refine TO.s rfl rfl rfl (StepS.fld rfl kfieldB_26_0_0_true) ?_
                    refine TO.pure (fun _ s => Rd.one (OwnS.rd (Ent.at 4 rfl)) s) fun oc191 => ?_
                    refine TO.stB (us := [v190]) 8 [v190, v6, .bool false, I x176] rfl rfl rfl ksizeB_24_1_true oc191.2 rfl rfl (by intro u hu; simp only [List.mem_cons, List.not_mem_nil, or_false] at hu; rcases hu with rfl <;> first | exact oc191.1 | rfl) rfl ?_
                    cases hj97
                    refine TO.nil fun a w e s => ?_
                    exact ⟨v173, v190, e.sub (lk_of_allIn ⟨rfl, rfl, rfl, rfl, rfl, rfl, rfl, rfl, rfl, rfl, rfl, trivial⟩), s.mono fun _ s => (by exact Sat.by [10, 10, 10, 10, 10, 10, 10, 8] 8 3 (by kernel_rfl) s)⟩
          · intro a w ⟨v89, v93, he, hs⟩
            refine TC.use ?_ he hs
            refine TC.region ?_
            refine TO.s rfl rfl rfl (StepS.ari rfl rfl rfl) ?_
            refine TO.s rfl rfl rfl (StepS.move rfl) ?_
            cases hb87
            refine TO.nil fun a w e s => ?_
            exact ⟨v89, v93, e.sub (lk_of_allIn ⟨rfl, rfl, rfl, rfl, rfl, rfl, rfl, rfl, rfl, rfl, rfl, trivial⟩), s⟩
        · replace hb87 := cond_f hc88 hb87
          cases hb87
          refine TC.exit rfl fun a w e s => ?_
          exact ⟨v56, v59, e.sub (lk_of_allIn ⟨rfl, rfl, rfl, rfl, rfl, rfl, trivial⟩), s⟩
      · exact fun a w e s => ⟨v41, .slice none 0 0, e.sub (lk_of_allIn ⟨rfl, rfl, rfl, rfl, rfl, rfl, rfl, rfl, rfl, rfl, rfl, trivial⟩), s.mono fun _ s => (by replace s := Sat.nilS (e := 27) (sz := 1) (f := cI) s; exact Sat.by [7, 7, 7, 7, 7, 7, 6, 7] 8 0 (by kernel_rfl) s)⟩
      · rintro ⟨y78, y81, y82, y83, x84⟩ rfl a w ⟨v76, v79, he, hs⟩
        dsimp only [Ctl.on] at hm
        refine TC.use ?_ he hs
        refine TC.k ?_
        refine TC.region_any (OwnS 48 3 v76 (y78.map cTiii) :: OwnS 27 1 v79 (y81.map cI) :: OwnS 3 1 v29 (r27.map cI) :: OwnS 3 1 v25 (y82.map cI) :: Bx b22 46 [v76] :: Bx b9 26 [v79, v6, .bool false, I x84] :: OwnS 3 1 v6 (y83.map cI) :: Bx b3 26 [.slice none 0 0, .slice none 0 0, .bool false, I 0] :: L) 11 12 kfollows_mixedOrders_true rfl ?_
        refine TA.takeW 0 rfl rfl rfl rfl (StepS.move rfl) (by kernel_rfl) (by kernel_rfl) (by kernel_rfl) rfl (.inr (fun _ s => s)) ?_
        refine TA.takeW 1 rfl rfl rfl rfl (StepS.move rfl) (by kernel_rfl) (by kernel_rfl) (by kernel_rfl) rfl (.inr (fun _ s => s)) ?_
        obtain ⟨xq192_2_1, hxq192_2_2, hm⟩ := bind_some hm
        refine TA.take 2 rfl rfl rfl rfl (StepS.idx rfl rfl (OwnS.rd (Ent.at 3 rfl)) ksliceB_23_3_1_true (idx_spec hxq192_2_2).1 (idxm_lt hxq192_2_2)) (by kernel_rfl) (by kernel_rfl) (by kernel_rfl) (by kernel_rfl) (by kernel_rfl) (fun _ s => s) ?_
        refine TA.take 3 rfl rfl rfl rfl (StepS.ld0 rfl (OwnS.rd (Ent.at 3 rfl)) kscalB_3_true rfl (idxm hxq192_2_2) rfl) (by kernel_rfl) (by kernel_rfl) (by kernel_rfl) (by kernel_rfl) (by kernel_rfl) (fun _ s => s) ?_
        refine TA.takeW 4 rfl rfl rfl rfl (StepS.move rfl) (by kernel_rfl) (by kernel_rfl) (by kernel_rfl) rfl (.inr (fun _ s => s)) ?_
        refine TA.takeW 5 rfl rfl rfl rfl (StepS.move rfl) (by kernel_rfl) (by kernel_rfl) (by kernel_rfl) rfl (.inr (fun _ s => s)) ?_
        refine TA.takeW 6 rfl rfl rfl rfl (StepS.move rfl) (by kernel_rfl) (by kernel_rfl) (by kernel_rfl) rfl (.inr (fun _ s => s)) ?_
        refine TA.all1 (i := 7) (by kernel_rfl) ?_
        refine TB.of rfl ?_
        obtain ⟨rq192_7_1, hcq192_7_2, hm⟩ := bind_some hm
        refine TO.callO kcallB_17_true rfl rfl rfl (fun _ st => C17 e1.tl.tl.tl.tl.tl.tl.tl.tl hcq192_7_2 st) ?_
        rintro vq192_7_3 _ ⟨_, rfl, rfl⟩
        refine TA.back (.inr (fun _ s => Sat.by [8, 8, 8, 8, 8, 8, 8, 8] 8 1 (by kernel_rfl) s)) ?_
        refine TA.asL (L' := (OwnS 3 1 vq192_7_3 (rq192_7_1.map cI) :: OwnS 48 3 v76 (y78.map cTiii) :: OwnS 27 1 v79 (y81.map cI) :: OwnS 3 1 v29 (r27.map cI) :: OwnS 3 1 v25 (y82.map cI) :: Bx b22 46 [v76] :: Bx b9 26 [v79, v6, .bool false, I x84] :: OwnS 3 1 v6 (y83.map cI) :: Bx b3 26 [.slice none 0 0, .slice none 0 0, .bool false, I 0] :: L)) (listed' := #[true, true, true, true, true, true, true, true, false, false, false, false]) (by kernel_rfl) (by kernel_rfl) ?_
        refine TA.all1 (i := 8) (by kernel_rfl) ?_
        refine TB.of rfl ?_
        refine TO.s rfl rfl rfl (StepS.lenm rfl (OwnS.rd (Ent.at 0 rfl)) ksliceB_23_3_1_true rfl) ?_
        refine TA.back (.inr (fun _ s => Sat.by [8, 8, 8, 8, 8, 8, 8, 8] 8 1 (by kernel_rfl) s)) ?_
        refine TA.asL (L' := (OwnS 3 1 vq192_7_3 (rq192_7_1.map cI) :: OwnS 48 3 v76 (y78.map cTiii) :: OwnS 27 1 v79 (y81.map cI) :: OwnS 3 1 v29 (r27.map cI) :: OwnS 3 1 v25 (y82.map cI) :: Bx b22 46 [v76] :: Bx b9 26 [v79, v6, .bool false, I x84] :: OwnS 3 1 v6 (y83.map cI) :: Bx b3 26 [.slice none 0 0, .slice none 0 0, .bool false, I 0] :: L)) (listed' := #[true, true, true, true, true, true, true, true, true, false, false, false]) (by kernel_rfl) (by kernel_rfl) ?_
        refine TA.takeW 9 rfl rfl rfl rfl (StepS.cmp rfl rfl rfl) (by kernel_rfl) (by kernel_rfl) (by kernel_rfl) rfl (.inr (fun _ s => Sat.by [8, 8, 8, 8, 8, 8, 8, 8] 8 1 (by kernel_rfl) s)) ?_
        refine TA.takeW 10 rfl rfl rfl rfl (StepS.fld rfl kfieldB_26_2_2_true) (by kernel_rfl) (by kernel_rfl) (by kernel_rfl) rfl (.inr (fun _ s => Sat.by [8, 8, 8, 8, 8, 8, 8, 8] 8 1 (by kernel_rfl) s)) ?_
        refine TA.all1 (i := 11) (by kernel_rfl) ?_
        refine TB.of rfl ?_
        refine TO.stB (us := [.bool (xq192_2_1 == (rq192_7_1.length : Int))]) 6 [v79, v6, .bool (xq192_2_1 == (rq192_7_1.length : Int)), I x84] rfl rfl rfl ksizeB_4_1_true rfl rfl rfl (by simp [Value.oneCell']) rfl ?_
        refine TA.back (.inl (by kernel_rfl)) ?_
        refine TA.asL (L' := (OwnS 3 1 vq192_7_3 (rq192_7_1.map cI) :: OwnS 48 3 v76 (y78.map cTiii) :: OwnS 27 1 v79 (y81.map cI) :: OwnS 3 1 v29 (r27.map cI) :: OwnS 3 1 v25 (y82.map cI) :: Bx b22 46 [v76] :: Bx b9 26 [v79, v6, .bool (xq192_2_1 == (rq192_7_1.length : Int)), I x84] :: OwnS 3 1 v6 (y83.map cI) :: Bx b3 26 [.slice none 0 0, .slice none 0 0, .bool false, I 0] :: L)) (listed' := #[true, true, true, true, true, true, true, true, true, true, true, true]) (by kernel_rfl) (by kernel_rfl) ?_
        refine TA.code (by kernel_rfl) ?_
        refine TC.k ?_
        refine TC.region ?_
        refine TO.s rfl rfl rfl (StepS.ldBA rfl (Ent.at 6 rfl) kaggB_26_4_true rfl rfl) ?_
        refine TO.pure (fun _ s => Rd.one (OwnS.rd (Ent.at 2 rfl)) s) fun oc193 => ?_
        refine TO.pure (fun _ s => Rd.one (OwnS.rd (Ent.at 7 rfl)) s) fun oc194 => ?_
        refine TO.stB (us := [v79, v6, .bool (xq192_2_1 == (rq192_7_1.length : Int)), I x84]) 8 [v79, v6, .bool (xq192_2_1 == (rq192_7_1.length : Int)), I x84] rfl rfl rfl ksizeB_26_4_true rfl rfl rfl (by intro u hu; simp only [List.mem_cons, List.not_mem_nil, or_false] at hu; rcases hu with rfl | rfl | rfl | rfl <;> first | exact oc193.1 | exact oc194.1 | rfl) rfl ?_
        refine TO.code ?_
        cases hm
        refine TC.ret fun a w e s => ?_
        refine FRet.cell1 (P := Try.prog) (fn := Try.f7) e s rfl rfl (Ent.at 8 rfl) kaggB_26_4_true rfl ?_
        refine ⟨_, _, rfl, ⟨(v79), (v6), rfl, rfl⟩, ?_⟩
        refine s.mono fun _ s => ?_
        replace s := Sat.front 7 rfl s
        replace s := Sat.front 3 rfl s
        replace s := Sat.erase 2 s
        replace s := Sat.erase 2 s
        replace s := Sat.erase 2 s
        replace s := Sat.erase 2 s
        replace s := Sat.erase 2 s
        replace s := Sat.erase 2 s
        replace s := Sat.erase 2 s
        exact s
      · rintro r rfl
        exact fun a w h => h.elim
    · rintro r rfl
      exact fun a w h => h.elim
  · rintro r rfl
    exact fun a w h => h.elim

set_option maxRecDepth 100000 in
theorem C3 {B : World} {L : List HP} {a0 : Int} {a1 : List (Int × Int)} {a2 : Int} {a3 : List Int} {h1 : Value} {h3 : Value} {r0 : Bool} (e1 : Ent L (Rd 2 h1 (a1.map cTii))) (e3 : Ent L (Rd 1 h3 (a3.map cI))) (hm : F3 a0 a1 a2 a3 = some r0) {w : World} (st : St B L w) : Calls Try.prog 3 #[I a0, h1, I a2, h3] w (fun e w' => (e = .returned (.bool r0) ∧ St B (L) w')) := by
  refine calls_of (N := 91) (L := L) (args := [I a0, h1, I a2, h3]) Try.func3 rfl rfl rfl ?_ st
  dsimp only [F3] at hm
  refine TC.k ?_
  refine TC.region ?_
  refine TO.s rfl rfl rfl (StepS.assign rfl) ?_
  refine TO.code ?_
  refine TC.k ?_
  refine TC.region ?_
  refine TO.s rfl rfl rfl (StepS.move rfl) ?_
  refine TO.s rfl rfl rfl (StepS.move rfl) ?_
  refine TO.s rfl rfl rfl (StepS.move rfl) ?_
  refine TO.s rfl rfl rfl (StepS.move rfl) ?_
  obtain ⟨⟨r1, r2⟩, hc3, hm⟩ := bind_some hm
  refine TO.callO kcallB_4_true rfl rfl rfl (fun _ st => C4 e1 e3 hc3 st) ?_
  rintro _ _ ⟨v4, v6, rfl, rfl⟩
  refine TO.s rfl rfl rfl (StepS.move rfl) ?_
  refine TO.s rfl rfl rfl (StepS.extract rfl rfl) ?_
  refine TO.s rfl rfl rfl (StepS.extract rfl rfl) ?_
  refine TO.alloc kinfo_26_bind_zero_some_agg_slice_none_0_0_slice_none_0_0_bool_false_I_0 rfl rfl fun b8 => ?_
  refine TO.pure (fun _ s => Rd.one (OwnS.rd (Ent.at 1 rfl)) s) fun oc9 => ?_
  refine TO.pure (fun _ s => Rd.one (OwnS.rd (Ent.at 2 rfl)) s) fun oc10 => ?_
  refine TO.stB (us := [v4, v6, .bool r1.2.2.1, I r1.2.2.2]) 0 [v4, v6, .bool r1.2.2.1, I r1.2.2.2] rfl rfl rfl ksizeB_26_4_true rfl rfl rfl (by intro u hu; simp only [List.mem_cons, List.not_mem_nil, or_false] at hu; rcases hu with rfl | rfl | rfl | rfl <;> first | exact oc9.1 | exact oc10.1 | rfl) rfl ?_
  refine TO.s rfl rfl rfl (StepS.assign rfl) ?_
  refine TO.code ?_
  refine TC.k ?_
  refine TC.region ?_
  refine TO.s rfl rfl rfl (StepS.move rfl) ?_
  refine TO.s rfl rfl rfl (StepS.move rfl) ?_
  obtain ⟨r11, hc12, hm⟩ := bind_some hm
  refine TO.q rfl rfl rfl (StepQ.call kcallB_5_true rfl rfl (fun _ st => C5 e1.tl.tl.tl hc12 st)) ?_
  refine TO.s rfl rfl rfl (StepS.assign rfl) ?_
  refine TO.code ?_
  refine TC.k ?_
  refine TC.k ?_
  refine TC.region ?_
  refine TO.s rfl rfl rfl (StepS.move rfl) ?_
  refine TO.s rfl rfl rfl (StepS.cmp rfl rfl rfl) ?_
  refine TO.s rfl rfl rfl (StepS.move rfl) ?_
  refine TO.mid1 3 29 (.bool ((r11 == 0) || (r11 == 2))) ?_ ?_
  · refine bcase ((r11 == 0)) (fun hb13 => ?_) (fun hb13 => ?_)
    · refine TO.skip rfl rfl rfl (skipT hb13) rfl rfl ?_
      refine TO.skip rfl rfl rfl (skipT hb13) rfl rfl ?_
      refine TO.s rfl rfl rfl (StepS.pickT rfl hb13 rfl) ?_
      exact TO.up1 3 0 rfl rfl (by rw [hb13]; rfl) rfl
    · refine TO.sw rfl rfl rfl hb13 rfl rfl (StepS.move rfl) ?_
      refine TO.sw rfl rfl rfl hb13 rfl rfl (StepS.cmp rfl rfl rfl) ?_
      refine TO.s rfl rfl rfl (StepS.pickF rfl hb13 rfl) ?_
      exact TO.up1 3 0 rfl rfl (by rw [hb13]; rfl) rfl
  refine TO.s rfl rfl rfl (StepS.move rfl) ?_
  refine TO.mid1 4 34 (.bool (((r11 == 0) || (r11 == 2)) && (decide ((a3.length : Int) > 60)))) ?_ ?_
  · refine bcase (((r11 == 0) || (r11 == 2))) (fun hb14 => ?_) (fun hb14 => ?_)
    · refine TO.sw rfl rfl rfl hb14 rfl rfl (StepS.move rfl) ?_
      refine TO.sw rfl rfl rfl hb14 rfl rfl (StepS.lenm rfl e3.tl.tl.tl ksliceB_23_3_1_true rfl) ?_
      refine TO.sw rfl rfl rfl hb14 rfl rfl (StepS.cmp rfl rfl rfl) ?_
      refine TO.s rfl rfl rfl (StepS.pickT rfl hb14 rfl) ?_
      exact TO.up1 4 0 rfl rfl (by rw [hb14]; rfl) rfl
    · refine TO.skip rfl rfl rfl (skipF hb14) rfl rfl ?_
      refine TO.skip rfl rfl rfl (skipF hb14) rfl rfl ?_
      refine TO.skip rfl rfl rfl (skipF hb14) rfl rfl ?_
      refine TO.s rfl rfl rfl (StepS.pickF rfl hb14 rfl) ?_
      exact TO.up1 4 0 rfl rfl (by rw [hb14]; rfl) rfl
  refine TO.code ?_
  obtain ⟨x15, hj16, hm⟩ := bind_some hm
  first | refine TC.cutM (fun a w => Mid 91 B [(0, I a0), (1, h1), (2, I a2), (3, h3), (9, .pointer (some ⟨b8, 0, none⟩)), (10, I r2), (11, I x15)] (Bx b8 26 [v4, v6, .bool r1.2.2.1, I r1.2.2.2] :: OwnS 27 1 v4 (r1.1.map cI) :: OwnS 3 1 v6 (r1.2.1.map cI) :: L) a w) ?_ ?_ | refine TC.cutX (fun a w => Mid 91 B [(0, I a0), (1, h1), (2, I a2), (3, h3), (9, .pointer (some ⟨b8, 0, none⟩)), (10, I r2), (11, I x15)] (Bx b8 26 [v4, v6, .bool r1.2.2.1, I r1.2.2.2] :: OwnS 27 1 v4 (r1.1.map cI) :: OwnS 3 1 v6 (r1.2.1.map cI) :: L) a w) ?_ ?_
  · refine TC.cond rfl (fun hc17 => ?_) (fun hc17 => ?_)
    · replace hj16 := cond_t hc17 hj16
      refine TC.region ?_
      refine TO.s rfl rfl rfl (StepS.assign rfl) ?_
      cases hj16
      refine TO.nil fun a w e s => ?_
      exact ⟨e.sub (lk_of_allIn ⟨rfl, rfl, rfl, rfl, rfl, rfl, rfl, trivial⟩), s⟩
    · replace hj16 := cond_f hc17 hj16
      cases hj16
      refine TC.skip fun a w e s => ?_
      exact ⟨e.sub (lk_of_allIn ⟨rfl, rfl, rfl, rfl, rfl, rfl, rfl, trivial⟩), s⟩
  · intro a w ⟨he, hs⟩
    refine TC.use ?_ he hs
    refine TC.k ?_
    refine TC.k ?_
    refine TC.region ?_
    refine TO.s rfl rfl rfl (StepS.move rfl) ?_
    refine TO.s rfl rfl rfl (StepS.cmp rfl rfl rfl) ?_
    refine TO.s rfl rfl rfl (StepS.move rfl) ?_
    refine TO.mid1 8 45 (.bool ((x15 == 0) && ((decide (a2 < 0)) || (decide (a2 ≥ a0))))) ?_ ?_
    · refine bcase ((x15 == 0)) (fun hb18 => ?_) (fun hb18 => ?_)
      · refine TO.sw rfl rfl rfl hb18 rfl rfl (StepS.move rfl) ?_
        refine TO.sw rfl rfl rfl hb18 rfl rfl (StepS.cmp rfl rfl rfl) ?_
        refine TO.sw rfl rfl rfl hb18 rfl rfl (StepS.move rfl) ?_
        refine TO.mid1 4 44 (.bool ((decide (a2 < 0)) || (decide (a2 ≥ a0)))) ?_ ?_
        · refine bcase ((decide (a2 < 0))) (fun hb19 => ?_) (fun hb19 => ?_)
          · refine TO.skip rfl rfl rfl (skipT hb19) rfl rfl ?_
            refine TO.skip rfl rfl rfl (skipT hb19) rfl rfl ?_
            refine TO.skip rfl rfl rfl (skipT hb19) rfl rfl ?_
            refine TO.sw rfl rfl rfl hb18 rfl rfl (StepS.pickT rfl hb19 rfl) ?_
            exact TO.up1 4 0 rfl rfl (by rw [hb19]; rfl) rfl
          · refine TO.sw rfl rfl rfl hb19 rfl rfl (StepS.move rfl) ?_
            refine TO.sw rfl rfl rfl hb19 rfl rfl (StepS.move rfl) ?_
            refine TO.sw rfl rfl rfl hb19 rfl rfl (StepS.cmp rfl rfl rfl) ?_
            refine TO.sw rfl rfl rfl hb18 rfl rfl (StepS.pickF rfl hb19 rfl) ?_
            exact TO.up1 4 0 rfl rfl (by rw [hb19]; rfl) rfl
        refine TO.s rfl rfl rfl (StepS.pickT rfl hb18 rfl) ?_
        exact TO.up1 5 0 rfl rfl (by rw [hb18]; rfl) rfl
      · refine TO.skip rfl rfl rfl (skipF hb18) rfl rfl ?_
        refine TO.skip rfl rfl rfl (skipF hb18) rfl rfl ?_
        refine TO.skip rfl rfl rfl (skipF hb18) rfl rfl ?_
        refine TO.skip rfl rfl rfl skipU rfl rfl ?_
        refine TO.skip rfl rfl rfl skipU rfl rfl ?_
        refine TO.skip rfl rfl rfl skipU rfl rfl ?_
        refine TO.skip rfl rfl rfl (skipF hb18) rfl rfl ?_
        refine TO.s rfl rfl rfl (StepS.pickF rfl hb18 rfl) ?_
        exact TO.up1 8 0 rfl rfl (by rw [hb18]; rfl) rfl
    refine TO.code ?_
    obtain ⟨x20, hj21, hm⟩ := bind_some hm
    first | refine TC.cutM (fun a w => Mid 91 B [(0, I a0), (1, h1), (2, I a2), (3, h3), (9, .pointer (some ⟨b8, 0, none⟩)), (10, I r2), (11, I x20)] (Bx b8 26 [v4, v6, .bool r1.2.2.1, I r1.2.2.2] :: OwnS 27 1 v4 (r1.1.map cI) :: OwnS 3 1 v6 (r1.2.1.map cI) :: L) a w) ?_ ?_ | refine TC.cutX (fun a w => Mid 91 B [(0, I a0), (1, h1), (2, I a2), (3, h3), (9, .pointer (some ⟨b8, 0, none⟩)), (10, I r2), (11, I x20)] (Bx b8 26 [v4, v6, .bool r1.2.2.1, I r1.2.2.2] :: OwnS 27 1 v4 (r1.1.map cI) :: OwnS 3 1 v6 (r1.2.1.map cI) :: L) a w) ?_ ?_
    · refine TC.cond rfl (fun hc22 => ?_) (fun hc22 => ?_)
      · replace hj21 := cond_t hc22 hj21
        refine TC.region ?_
        refine TO.s rfl rfl rfl (StepS.assign rfl) ?_
        cases hj21
        refine TO.nil fun a w e s => ?_
        exact ⟨e.sub (lk_of_allIn ⟨rfl, rfl, rfl, rfl, rfl, rfl, rfl, trivial⟩), s⟩
      · replace hj21 := cond_f hc22 hj21
        cases hj21
        refine TC.skip fun a w e s => ?_
        exact ⟨e.sub (lk_of_allIn ⟨rfl, rfl, rfl, rfl, rfl, rfl, rfl, trivial⟩), s⟩
    · intro a w ⟨he, hs⟩
      refine TC.use ?_ he hs
      refine TC.k ?_
      refine TC.k ?_
      refine TC.region ?_
      refine TO.s rfl rfl rfl (StepS.move rfl) ?_
      refine TO.s rfl rfl rfl (StepS.cmp rfl rfl rfl) ?_
      refine TO.s rfl rfl rfl (StepS.move rfl) ?_
      obtain ⟨b24, hj25, hm⟩ := bind_some hm
      refine TO.mid1 3 51 (.bool b24) ?_ ?_
      · refine bcase ((x20 == 0)) (fun hb23 => ?_) (fun hb23 => ?_)
        · replace hj25 := cond_t hb23 hj25
          refine TO.sw rfl rfl rfl hb23 rfl rfl (StepS.move rfl) ?_
          obtain ⟨r26, hc27, hj25⟩ := bind_some hj25
          refine TO.qw rfl rfl rfl hb23 rfl rfl (StepQ.call kcallB_6_true rfl rfl (fun _ st => C6 e1.tl.tl.tl hc27 st)) ?_
          cases hj25
          refine TO.s rfl rfl rfl (StepS.pickT rfl hb23 rfl) ?_
          exact TO.up1 3 0 rfl rfl rfl rfl
        · replace hj25 := cond_f hb23 hj25
          cases hj25
          refine TO.skip rfl rfl rfl (skipF hb23) rfl rfl ?_
          refine TO.skip rfl rfl rfl (skipF hb23) rfl rfl ?_
          refine TO.s rfl rfl rfl (StepS.pickF rfl hb23 rfl) ?_
          exact TO.up1 3 0 rfl rfl rfl rfl
      refine TO.code ?_
      obtain ⟨x28, hj29, hm⟩ := bind_some hm
      first | refine TC.cutM (fun a w => Mid 91 B [(0, I a0), (1, h1), (2, I a2), (3, h3), (9, .pointer (some ⟨b8, 0, none⟩)), (10, I r2), (11, I x28)] (Bx b8 26 [v4, v6, .bool r1.2.2.1, I r1.2.2.2] :: OwnS 27 1 v4 (r1.1.map cI) :: OwnS 3 1 v6 (r1.2.1.map cI) :: L) a w) ?_ ?_ | refine TC.cutX (fun a w => Mid 91 B [(0, I a0), (1, h1), (2, I a2), (3, h3), (9, .pointer (some ⟨b8, 0, none⟩)), (10, I r2), (11, I x28)] (Bx b8 26 [v4, v6, .bool r1.2.2.1, I r1.2.2.2] :: OwnS 27 1 v4 (r1.1.map cI) :: OwnS 3 1 v6 (r1.2.1.map cI) :: L) a w) ?_ ?_
      · refine TC.cond rfl (fun hc30 => ?_) (fun hc30 => ?_)
        · replace hj29 := cond_t hc30 hj29
          refine TC.region ?_
          refine TO.s rfl rfl rfl (StepS.assign rfl) ?_
          cases hj29
          refine TO.nil fun a w e s => ?_
          exact ⟨e.sub (lk_of_allIn ⟨rfl, rfl, rfl, rfl, rfl, rfl, rfl, trivial⟩), s⟩
        · replace hj29 := cond_f hc30 hj29
          cases hj29
          refine TC.skip fun a w e s => ?_
          exact ⟨e.sub (lk_of_allIn ⟨rfl, rfl, rfl, rfl, rfl, rfl, rfl, trivial⟩), s⟩
      · intro a w ⟨he, hs⟩
        refine TC.use ?_ he hs
        refine TC.k ?_
        refine TC.region ?_
        refine TO.s rfl rfl rfl (StepS.build (cs := [.slice none 0 0, .slice none 0 0, .bool false, I 0]) rfl (by kernel_rfl)) ?_
        refine TO.alloc kinfo_26_bind_zero_some_agg_slice_none_0_0_slice_none_0_0_bool_false_I_0 rfl rfl fun b31 => ?_
        refine TO.stB (us := [.slice none 0 0, .slice none 0 0, .bool false, I 0]) 0 [.slice none 0 0, .slice none 0 0, .bool false, I 0] rfl rfl rfl ksizeB_26_4_true rfl rfl rfl (by simp [Value.oneCell']) rfl ?_
        refine TO.code ?_
        refine TC.k ?_
        refine TC.k ?_
        refine TC.region ?_
        refine TO.s rfl rfl rfl (StepS.move rfl) ?_
        refine TO.s rfl rfl rfl (StepS.cmp rfl rfl rfl) ?_
        refine TO.code ?_
        obtain ⟨⟨y34, y37, b38, x39⟩, hj40, hm⟩ := bind_some hm
        first | refine TC.cutM (fun a w => ∃ v32 : Value, ∃ v35 : Value, Mid 91 B [(9, .pointer (some ⟨b8, 0, none⟩)), (10, I r2), (11, I x28), (12, .pointer (some ⟨b31, 0, none⟩))] (OwnS 27 1 v32 (y34.map cI) :: OwnS 3 1 v35 (y37.map cI) :: Bx b31 26 [v32, v35, .bool b38, I x39] :: Bx b8 26 [v4, v6, .bool r1.2.2.1, I r1.2.2.2] :: OwnS 27 1 v4 (r1.1.map cI) :: OwnS 3 1 v6 (r1.2.1.map cI) :: L) a w) ?_ ?_ | refine TC.cutX (fun a w => ∃ v32 : Value, ∃ v35 : Value, Mid 91 B [(9, .pointer (some ⟨b8, 0, none⟩)), (10, I r2), (11, I x28), (12, .pointer (some ⟨b31, 0, none⟩))] (OwnS 27 1 v32 (y34.map cI) :: OwnS 3 1 v35 (y37.map cI) :: Bx b31 26 [v32, v35, .bool b38, I x39] :: Bx b8 26 [v4, v6, .bool r1.2.2.1, I r1.2.2.2] :: OwnS 27 1 v4 (r1.1.map cI) :: OwnS 3 1 v6 (r1.2.1.map cI) :: L) a w) ?_ ?_
        · refine TC.cond rfl (fun hc41 => ?_) (fun hc41 => ?_)
          · replace hj40 := cond_t hc41 hj40
            refine TC.region ?_
            refine TO.s rfl rfl rfl (StepS.move rfl) ?_
            refine TO.s rfl rfl rfl (StepS.move rfl) ?_
            refine TO.s rfl rfl rfl (StepS.move rfl) ?_
            refine TO.s rfl rfl rfl (StepS.move rfl) ?_
            obtain ⟨r42, hc43, hj40⟩ := bind_some hj40
            refine TO.callO kcallB_7_true rfl rfl rfl (fun _ st => C7 e1.tl.tl.tl.tl e3.tl.tl.tl.tl hc43 st) ?_
            rintro _ _ ⟨v44, v46, rfl, rfl⟩
            refine TO.pure (fun _ s => Rd.one (OwnS.rd (Ent.at 0 rfl)) s) fun oc48 => ?_
            refine TO.pure (fun _ s => Rd.one (OwnS.rd (Ent.at 1 rfl)) s) fun oc49 => ?_
            refine TO.stB (us := [v44, v46, .bool r42.2.2.1, I r42.2.2.2]) 2 [v44, v46, .bool r42.2.2.1, I r42.2.2.2] rfl rfl rfl ksizeB_26_4_true rfl rfl rfl (by intro u hu; simp only [List.mem_cons, List.not_mem_nil, or_false] at hu; rcases hu with rfl | rfl | rfl | rfl <;> first | exact oc48.1 | exact oc49.1 | rfl) rfl ?_
            cases hj40
            refine TO.nil fun a w e s => ?_
            exact ⟨v44, v46, e.sub (lk_of_allIn ⟨rfl, rfl, rfl, rfl, trivial⟩), s⟩
          · replace hj40 := cond_f hc41 hj40
            cases hj40
            refine TC.skip fun a w e s => ?_
            exact ⟨.slice none 0 0, .slice none 0 0, e.sub (lk_of_allIn ⟨rfl, rfl, rfl, rfl, trivial⟩), s.mono fun _ s => (by replace s := Sat.nilS (e := 3) (sz := 1) (f := cI) s; replace s := Sat.nilS (e := 27) (sz := 1) (f := cI) s; exact Sat.by [5, 5, 5, 5, 5, 5] 6 0 (by kernel_rfl) s)⟩
        · intro a w ⟨v32, v35, he, hs⟩
          refine TC.use ?_ he hs
          refine TC.k ?_
          refine TC.region ?_
          refine TO.s rfl rfl rfl (StepS.move rfl) ?_
          refine TO.s rfl rfl rfl (StepS.move rfl) ?_
          refine TO.s rfl rfl rfl (StepS.cmp rfl rfl rfl) ?_
          refine TO.s rfl rfl rfl (StepS.move rfl) ?_
          obtain ⟨b51, hj52, hm⟩ := bind_some hm
          refine TO.mid1 6 69 (.bool b51) ?_ ?_
          · refine bcase ((r2 == x28)) (fun hb50 => ?_) (fun hb50 => ?_)
            · replace hj52 := cond_t hb50 hj52
              refine TO.sw rfl rfl rfl hb50 rfl rfl (StepS.fld rfl kfieldB_26_0_0_true) ?_
              refine TO.sw rfl rfl rfl hb50 rfl rfl (StepS.ldB rfl (Ent.at 3 rfl) kscalB_24_true rfl) ?_
              refine TO.sw rfl rfl rfl hb50 rfl rfl (StepS.fld rfl kfieldB_26_0_0_true) ?_
              refine TO.sw rfl rfl rfl hb50 rfl rfl (StepS.ldB rfl (Ent.at 2 rfl) kscalB_24_true rfl) ?_
              obtain ⟨r53, hc54, hj52⟩ := bind_some hj52
              refine TO.qw rfl rfl rfl hb50 rfl rfl (StepQ.call kcallB_8_true rfl rfl (fun _ st => C8 (OwnS.rd (Ent.at 4 rfl)) (OwnS.rd (Ent.at 0 rfl)) hc54 st)) ?_
              cases hj52
              refine TO.s rfl rfl rfl (StepS.pickT rfl hb50 rfl) ?_
              exact TO.up1 6 0 rfl rfl rfl rfl
            · replace hj52 := cond_f hb50 hj52
              cases hj52
              refine TO.skip rfl rfl rfl (skipF hb50) rfl rfl ?_
              refine TO.skip rfl rfl rfl (skipF hb50) rfl rfl ?_
              refine TO.skip rfl rfl rfl (skipF hb50) rfl rfl ?_
              refine TO.skip rfl rfl rfl (skipF hb50) rfl rfl ?_
              refine TO.skip rfl rfl rfl (skipF hb50) rfl rfl ?_
              refine TO.s rfl rfl rfl (StepS.pickF rfl hb50 rfl) ?_
              exact TO.up1 6 0 rfl rfl rfl rfl
          refine TO.s rfl rfl rfl (StepS.move rfl) ?_
          obtain ⟨b56, hj57, hm⟩ := bind_some hm
          refine TO.mid1 6 76 (.bool b56) ?_ ?_
          · refine bcase (b51) (fun hb55 => ?_) (fun hb55 => ?_)
            · replace hj57 := cond_t hb55 hj57
              refine TO.sw rfl rfl rfl hb55 rfl rfl (StepS.fld rfl kfieldB_26_1_1_true) ?_
              refine TO.sw rfl rfl rfl hb55 rfl rfl (StepS.ldB rfl (Ent.at 3 rfl) kscalB_23_true rfl) ?_
              refine TO.sw rfl rfl rfl hb55 rfl rfl (StepS.fld rfl kfieldB_26_1_1_true) ?_
              refine TO.sw rfl rfl rfl hb55 rfl rfl (StepS.ldB rfl (Ent.at 2 rfl) kscalB_23_true rfl) ?_
              obtain ⟨r58, hc59, hj57⟩ := bind_some hj57
              refine TO.qw rfl rfl rfl hb55 rfl rfl (StepQ.call kcallB_9_true rfl rfl (fun _ st => C9 (OwnS.rd (Ent.at 5 rfl)) (OwnS.rd (Ent.at 1 rfl)) hc59 st)) ?_
              cases hj57
              refine TO.s rfl rfl rfl (StepS.pickT rfl hb55 rfl) ?_
              exact TO.up1 6 0 rfl rfl rfl rfl
            · replace hj57 := cond_f hb55 hj57
              cases hj57
              refine TO.skip rfl rfl rfl (skipF hb55) rfl rfl ?_
              refine TO.skip rfl rfl rfl (skipF hb55) rfl rfl ?_
              refine TO.skip rfl rfl rfl (skipF hb55) rfl rfl ?_
              refine TO.skip rfl rfl rfl (skipF hb55) rfl rfl ?_
              refine TO.skip rfl rfl rfl (skipF hb55) rfl rfl ?_
              refine TO.s rfl rfl rfl (StepS.pickF rfl hb55 rfl) ?_
              exact TO.up1 6 0 rfl rfl rfl rfl
          refine TO.s rfl rfl rfl (StepS.move rfl) ?_
          refine TO.mid1 6 83 (.bool (b56 && (r1.2.2.1 == b38))) ?_ ?_
          · refine bcase (b56) (fun hb60 => ?_) (fun hb60 => ?_)
            · refine TO.sw rfl rfl rfl hb60 rfl rfl (StepS.fld rfl kfieldB_26_2_2_true) ?_
              refine TO.sw rfl rfl rfl hb60 rfl rfl (StepS.ldB rfl (Ent.at 3 rfl) kscalB_4_true rfl) ?_
              refine TO.sw rfl rfl rfl hb60 rfl rfl (StepS.fld rfl kfieldB_26_2_2_true) ?_
              refine TO.sw rfl rfl rfl hb60 rfl rfl (StepS.ldB rfl (Ent.at 2 rfl) kscalB_4_true rfl) ?_
              refine TO.sw rfl rfl rfl hb60 rfl rfl (StepS.eqB kunderlying_4_some_bool rfl rfl) ?_
              refine TO.s rfl rfl rfl (StepS.pickT rfl hb60 rfl) ?_
              exact TO.up1 6 0 rfl rfl (by rw [hb60]; rfl) rfl
            · refine TO.skip rfl rfl rfl (skipF hb60) rfl rfl ?_
              refine TO.skip rfl rfl rfl (skipF hb60) rfl rfl ?_
              refine TO.skip rfl rfl rfl (skipF hb60) rfl rfl ?_
              refine TO.skip rfl rfl rfl (skipF hb60) rfl rfl ?_
              refine TO.skip rfl rfl rfl (skipF hb60) rfl rfl ?_
              refine TO.s rfl rfl rfl (StepS.pickF rfl hb60 rfl) ?_
              exact TO.up1 6 0 rfl rfl (by rw [hb60]; rfl) rfl
          refine TO.s rfl rfl rfl (StepS.move rfl) ?_
          refine TO.mid1 6 90 (.bool ((b56 && (r1.2.2.1 == b38)) && (r1.2.2.2 == x39))) ?_ ?_
          · refine bcase ((b56 && (r1.2.2.1 == b38))) (fun hb61 => ?_) (fun hb61 => ?_)
            · refine TO.sw rfl rfl rfl hb61 rfl rfl (StepS.fld rfl kfieldB_26_3_3_true) ?_
              refine TO.sw rfl rfl rfl hb61 rfl rfl (StepS.ldB rfl (Ent.at 3 rfl) kscalB_3_true rfl) ?_
              refine TO.sw rfl rfl rfl hb61 rfl rfl (StepS.fld rfl kfieldB_26_3_3_true) ?_
              refine TO.sw rfl rfl rfl hb61 rfl rfl (StepS.ldB rfl (Ent.at 2 rfl) kscalB_3_true rfl) ?_
              refine TO.sw rfl rfl rfl hb61 rfl rfl (StepS.cmp rfl rfl rfl) ?_
              refine TO.s rfl rfl rfl (StepS.pickT rfl hb61 rfl) ?_
              exact TO.up1 6 0 rfl rfl (by rw [hb61]; rfl) rfl
            · refine TO.skip rfl rfl rfl (skipF hb61) rfl rfl ?_
              refine TO.skip rfl rfl rfl (skipF hb61) rfl rfl ?_
              refine TO.skip rfl rfl rfl (skipF hb61) rfl rfl ?_
              refine TO.skip rfl rfl rfl (skipF hb61) rfl rfl ?_
              refine TO.skip rfl rfl rfl (skipF hb61) rfl rfl ?_
              refine TO.s rfl rfl rfl (StepS.pickF rfl hb61 rfl) ?_
              exact TO.up1 6 0 rfl rfl (by rw [hb61]; rfl) rfl
          refine TO.s rfl rfl rfl (StepS.assign rfl) ?_
          refine TO.code ?_
          cases hm
          refine TC.ret fun a w e s => ?_
          refine FRet.mk1 (P := Try.prog) (fn := Try.f3) (t := 8) e rfl rfl ?_
          exact ⟨rfl, s.mono fun _ => Sat.dropN 6⟩
end Go.Proofs.Ytpeijfboikfcjaa
