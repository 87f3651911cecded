/-
  The walks: each Go function returns what its model says. Written by a program (gen.py).
-/
import Derived.Test.YthfkdepcnhhepaaProg
import Derived.KernelRfl
import Derived.Test.YthfkdepcnhhepaaKW
import Derived.Test.YthfkdepcnhhepaaGW
import Derived.Test.YthfkdepcnhhepaaHM
namespace Go.Proofs.Ythfkdepcnhhepaa
open Go Go.Bk
set_option linter.unusedVariables false
set_option linter.unnecessarySimpa false
theorem kscalB_23_true : scalB Try.prog 23 = true := by kernel_rfl
theorem kcallB_66_true : callB Try.prog 66 = true := by kernel_rfl
theorem kinfo_22_bind_zero_some_slice_none_0_0 : (Try.prog.info? 22).bind (·.zero) = some (.slice none 0 0) := by kernel_rfl
theorem kinfo_50_bind_zero_some_slice_none_0_0 : (Try.prog.info? 50).bind (·.zero) = some (.slice none 0 0) := by kernel_rfl
theorem kcallB_71_true : callB Try.prog 71 = true := by kernel_rfl
theorem kcallB_36_true : callB Try.prog 36 = true := by kernel_rfl
theorem kcallB_21_true : callB Try.prog 21 = true := by kernel_rfl
theorem kcallB_37_true : callB Try.prog 37 = true := by kernel_rfl
theorem kcallB_18_true : callB Try.prog 18 = true := by kernel_rfl
theorem kcallB_28_true : callB Try.prog 28 = true := by kernel_rfl

set_option maxRecDepth 100000 in
theorem C71 {B : World} {L : List HP} {a0 : Int} {a1 : Int} {a2 : List (List Int)} {a3 : List (Int × Int × Int × Int)} {a4 : List (List Int)} {b2_ : Nat} {h2 : Value} {k2_ : List Value} {b3_ : Nat} {h3 : Value} {b4_ : Nat} {h4 : Value} {k4_ : List Value} {r0 : List Int} (g2 : Ent L (Bx b2_ 50 [h2])) (e2 : Ent L (RR 1 cI h2 k2_ a2)) (g3 : Ent L (Bx b3_ 23 [h3])) (e3 : Ent L (Rd 4 h3 (a3.map cTiiii))) (g4 : Ent L (Bx b4_ 50 [h4])) (e4 : Ent L (RR 1 cI h4 k4_ a4)) (hm : F71 a0 a1 a2 a3 a4 = some r0) {w : World} (st : St B L w) : Calls Try.prog 71 #[I a0, I a1, .pointer (some ⟨b2_, 0, none⟩), .pointer (some ⟨b3_, 0, none⟩), .pointer (some ⟨b4_, 0, none⟩)] w (fun e w' => ∃ v M, e = .returned v ∧ (∃ (qv1 : Value), v = qv1 ∧ M = (OwnS 3 1 qv1 (r0.map cI) :: L)) ∧ St B M w') := by
  refine calls_of (N := 65) (L := L) (args := [I a0, I a1, .pointer (some ⟨b2_, 0, none⟩), .pointer (some ⟨b3_, 0, none⟩), .pointer (some ⟨b4_, 0, none⟩)]) Try.func71 rfl rfl rfl ?_ st
  dsimp only [F71] at hm
  refine TC.k ?_
  refine TC.region ?_
  refine TO.s rfl rfl rfl (StepS.assign rfl) ?_
  refine TO.code ?_
  refine TC.k ?_
  refine TC.region ?_
  refine TO.s rfl rfl rfl (StepS.assign rfl) ?_
  refine TO.code ?_
  refine TC.k ?_
  refine TC.k ?_
  refine TC.region ?_
  refine TO.s rfl rfl rfl (StepS.ldB rfl g2 kscalB_50_true rfl) ?_
  refine TO.s rfl rfl rfl (StepS.move rfl) ?_
  obtain ⟨x2, hx3, hm⟩ := bind_some hm
  refine TO.s rfl rfl rfl (StepS.idxRR rfl rfl e2 ksliceB_50_22_1_true hx3) ?_
  refine TO.s rfl rfl rfl (StepS.ldRR rfl e2 kscalB_22_true hx3) ?_
  refine TO.s rfl rfl rfl (StepS.lenm rfl (RR.row e2 hx3) ksliceB_22_3_1_true rfl) ?_
  refine TO.s rfl rfl rfl (StepS.move rfl) ?_
  refine TO.code ?_
  obtain ⟨o16, hw17, hm⟩ := bind_some hm
  refine TC.loop hw17 (fun (y7, x8) => fun a w => ∃ v5 : Value, Mid 65 B [(0, I a0), (1, I a1), (2, .pointer (some ⟨b2_, 0, none⟩)), (3, .pointer (some ⟨b3_, 0, none⟩)), (4, .pointer (some ⟨b4_, 0, none⟩)), (8, v5), (17, (rowv k2_ a0.toNat)), (18, I (x2.length : Int)), (19, I x8)] (OwnS 3 1 v5 (y7.map cI) :: L) a w) (fun y15 => fun a w => ∃ v13 : Value, Mid 65 B [(8, v13)] (OwnS 3 1 v13 (y15.map cI) :: L) a w) (fun (_ : Unit) _ _ => False) ?_ ?_ ?_ ?_
  · rintro ⟨y7, x8⟩ o16r hb18 a w ⟨v5, he, hs⟩
    dsimp only [F71_L0] at hb18
    refine TC.use ?_ he hs
    refine TC.k ?_
    refine TC.region ?_
    refine TO.s rfl rfl rfl (StepS.cmp rfl rfl rfl) ?_
    refine TO.code ?_
    refine TC.k ?_
    refine TC.cond rfl (fun hc19 => ?_) (fun hc19 => ?_)
    · replace hb18 := cond_t hc19 hb18
      refine TC.skipk ?_
      refine TC.k ?_
      obtain ⟨y20, hj22, hb18⟩ := bind_some hb18
      first | refine TC.cutM (fun a w => ∃ v21 : Value, Mid 65 B [(0, I a0), (1, I a1), (2, .pointer (some ⟨b2_, 0, none⟩)), (3, .pointer (some ⟨b3_, 0, none⟩)), (4, .pointer (some ⟨b4_, 0, none⟩)), (8, v21), (17, (rowv k2_ a0.toNat)), (18, I (x2.length : Int)), (19, I x8)] (OwnS 3 1 v21 (y20.map cI) :: L) a w) ?_ ?_ | refine TC.cutX (fun a w => ∃ v21 : Value, Mid 65 B [(0, I a0), (1, I a1), (2, .pointer (some ⟨b2_, 0, none⟩)), (3, .pointer (some ⟨b3_, 0, none⟩)), (4, .pointer (some ⟨b4_, 0, none⟩)), (8, v21), (17, (rowv k2_ a0.toNat)), (18, I (x2.length : Int)), (19, I x8)] (OwnS 3 1 v21 (y20.map cI) :: L) a w) ?_ ?_
      · refine TC.block ?_
        refine TC.k ?_
        refine TC.region ?_
        obtain ⟨x23, hx24, hj22⟩ := bind_some hj22
        refine TO.s rfl rfl rfl (StepS.idx rfl rfl (RR.row e2.tl hx3) ksliceB_22_3_1_true (idx_spec hx24).1 (idxm_lt hx24)) ?_
        refine TO.s rfl rfl rfl (StepS.ld0 rfl (RR.row e2.tl hx3) kscalB_3_true rfl (idxm hx24) rfl) ?_
        refine TO.s rfl rfl rfl (StepS.assign rfl) ?_
        refine TO.code ?_
        refine TC.k ?_
        refine TC.k ?_
        refine TC.region ?_
        refine TO.s rfl rfl rfl (StepS.ldB rfl g3.tl kscalB_23_true rfl) ?_
        refine TO.s rfl rfl rfl (StepS.move rfl) ?_
        obtain ⟨x25, hx26, hj22⟩ := bind_some hj22
        refine TO.s rfl rfl rfl (StepS.idx rfl rfl e3.tl ksliceB_23_106_4_true (idx_spec hx26).1 (idxm_lt hx26)) ?_
        refine TO.s rfl rfl rfl (StepS.ptrf rfl kfieldB_106_0_0_true) ?_
        refine TO.s rfl rfl rfl (StepS.ld1 rfl e3.tl kscalB_3_true rfl (idxm hx26) rfl) ?_
        refine TO.s rfl rfl rfl (StepS.cmp rfl rfl rfl) ?_
        refine TO.s rfl rfl rfl (StepS.move rfl) ?_
        obtain ⟨b28, hj29, hj22⟩ := bind_some hj22
        refine TO.mid1 8 37 (.bool b28) ?_ ?_
        · refine bcase ((x25.1 != 1)) (fun hb27 => ?_) (fun hb27 => ?_)
          · replace hj29 := cond_t hb27 hj29
            cases hj29
            refine TO.skip rfl rfl rfl (skipT hb27) rfl rfl ?_
            refine TO.skip rfl rfl rfl (skipT hb27) rfl rfl ?_
            refine TO.skip rfl rfl rfl (skipT hb27) rfl rfl ?_
            refine TO.skip rfl rfl rfl (skipT hb27) rfl rfl ?_
            refine TO.skip rfl rfl rfl (skipT hb27) rfl rfl ?_
            refine TO.skip rfl rfl rfl (skipT hb27) rfl rfl ?_
            refine TO.skip rfl rfl rfl (skipT hb27) rfl rfl ?_
            refine TO.s rfl rfl rfl (StepS.pickT rfl hb27 rfl) ?_
            exact TO.up1 8 0 rfl rfl rfl rfl
          · replace hj29 := cond_f hb27 hj29
            refine TO.sw rfl rfl rfl hb27 rfl rfl (StepS.ldB rfl g3.tl kscalB_23_true rfl) ?_
            refine TO.sw rfl rfl rfl hb27 rfl rfl (StepS.move rfl) ?_
            obtain ⟨x30, hx31, hj29⟩ := bind_some hj29
            refine TO.sw rfl rfl rfl hb27 rfl rfl (StepS.idx rfl rfl e3.tl ksliceB_23_106_4_true (idx_spec hx31).1 (idxm_lt hx31)) ?_
            refine TO.sw rfl rfl rfl hb27 rfl rfl (StepS.ptrf rfl kfieldB_106_3_3_true) ?_
            refine TO.sw rfl rfl rfl hb27 rfl rfl (StepS.ld1 rfl e3.tl kscalB_3_true rfl (idxm hx31) rfl) ?_
            refine TO.sw rfl rfl rfl hb27 rfl rfl (StepS.move rfl) ?_
            refine TO.sw rfl rfl rfl hb27 rfl rfl (StepS.cmp rfl rfl rfl) ?_
            cases hj29
            refine TO.s rfl rfl rfl (StepS.pickF rfl hb27 rfl) ?_
            exact TO.up1 8 0 rfl rfl rfl rfl
        refine TO.code ?_
        refine TC.cond rfl (fun hc32 => ?_) (fun hc32 => ?_)
        · replace hj22 := cond_t hc32 hj22
          cases hj22
          refine TC.exit rfl fun a w e s => ?_
          exact ⟨v5, e.sub (lk_of_allIn ⟨rfl, rfl, rfl, rfl, rfl, rfl, rfl, rfl, rfl, trivial⟩), s⟩
        · replace hj22 := cond_f hc32 hj22
          refine TC.skipk ?_
          refine TC.k ?_
          refine TC.region ?_
          refine TO.s rfl rfl rfl (StepS.assign rfl) ?_
          refine TO.code ?_
          refine TC.k ?_
          refine TC.k ?_
          refine TC.region ?_
          refine TO.s rfl rfl rfl (StepS.ldB rfl g2.tl kscalB_50_true rfl) ?_
          refine TO.s rfl rfl rfl (StepS.move rfl) ?_
          obtain ⟨x33, hx34, hj22⟩ := bind_some hj22
          refine TO.s rfl rfl rfl (StepS.idxRR rfl rfl e2.tl ksliceB_50_22_1_true hx34) ?_
          refine TO.s rfl rfl rfl (StepS.ldRR rfl e2.tl kscalB_22_true hx34) ?_
          refine TO.s rfl rfl rfl (StepS.lenm rfl (RR.row e2.tl hx34) ksliceB_22_3_1_true rfl) ?_
          refine TO.s rfl rfl rfl (StepS.move rfl) ?_
          refine TO.code ?_
          obtain ⟨o41, hw42, hj22⟩ := bind_some hj22
          refine TC.loop hw42 (fun (b36, x37) => fun a w => Mid 65 B [(0, I a0), (1, I a1), (2, .pointer (some ⟨b2_, 0, none⟩)), (3, .pointer (some ⟨b3_, 0, none⟩)), (4, .pointer (some ⟨b4_, 0, none⟩)), (8, v5), (10, I x23), (11, .bool b36), (17, (rowv k2_ a0.toNat)), (18, I (x2.length : Int)), (19, I x8), (41, (rowv k2_ a0.toNat)), (42, I (x33.length : Int)), (43, I x37)] (OwnS 3 1 v5 (y7.map cI) :: L) a w) (fun b40 => fun a w => Mid 65 B [(0, I a0), (1, I a1), (2, .pointer (some ⟨b2_, 0, none⟩)), (3, .pointer (some ⟨b3_, 0, none⟩)), (4, .pointer (some ⟨b4_, 0, none⟩)), (8, v5), (10, I x23), (11, .bool b40), (17, (rowv k2_ a0.toNat)), (18, I (x2.length : Int)), (19, I x8)] (OwnS 3 1 v5 (y7.map cI) :: L) a w) (fun (_ : Unit) _ _ => False) ?_ ?_ ?_ ?_
          · rintro ⟨b36, x37⟩ o41r hb43 a w ⟨he, hs⟩
            dsimp only [F71_L1] at hb43
            refine TC.use ?_ he hs
            refine TC.k ?_
            refine TC.region ?_
            refine TO.s rfl rfl rfl (StepS.cmp rfl rfl rfl) ?_
            refine TO.code ?_
            refine TC.k ?_
            refine TC.cond rfl (fun hc44 => ?_) (fun hc44 => ?_)
            · replace hb43 := cond_t hc44 hb43
              refine TC.skipk ?_
              refine TC.k ?_
              refine TC.block ?_
              refine TC.k ?_
              refine TC.region ?_
              obtain ⟨x45, hx46, hb43⟩ := bind_some hb43
              refine TO.s rfl rfl rfl (StepS.idx rfl rfl (RR.row e2.tl hx34) ksliceB_22_3_1_true (idx_spec hx46).1 (idxm_lt hx46)) ?_
              refine TO.s rfl rfl rfl (StepS.ld0 rfl (RR.row e2.tl hx34) kscalB_3_true rfl (idxm hx46) rfl) ?_
              refine TO.s rfl rfl rfl (StepS.assign rfl) ?_
              refine TO.code ?_
              refine TC.region ?_
              refine TO.s rfl rfl rfl (StepS.move rfl) ?_
              refine TO.s rfl rfl rfl (StepS.move rfl) ?_
              obtain ⟨b48, hj49, hb43⟩ := bind_some hb43
              refine TO.mid1 8 56 (.bool b48) ?_ ?_
              · refine bcase (b36) (fun hb47 => ?_) (fun hb47 => ?_)
                · replace hj49 := cond_t hb47 hj49
                  refine TO.sw rfl rfl rfl hb47 rfl rfl (StepS.ldB rfl g4.tl kscalB_50_true rfl) ?_
                  refine TO.sw rfl rfl rfl hb47 rfl rfl (StepS.move rfl) ?_
                  obtain ⟨x50, hx51, hj49⟩ := bind_some hj49
                  refine TO.sw rfl rfl rfl hb47 rfl rfl (StepS.idxRR rfl rfl e4.tl ksliceB_50_22_1_true hx51) ?_
                  refine TO.sw rfl rfl rfl hb47 rfl rfl (StepS.ldRR rfl e4.tl kscalB_22_true hx51) ?_
                  refine TO.sw rfl rfl rfl hb47 rfl rfl (StepS.move rfl) ?_
                  obtain ⟨r53, hc54, hj49⟩ := bind_some hj49
                  refine TO.qw rfl rfl rfl hb47 rfl rfl (StepQ.call kcallB_66_true rfl rfl (fun _ st => C66 (RR.row e4.tl hx51) hc54 st)) ?_
                  refine TO.sw rfl rfl rfl hb47 rfl rfl (StepS.not rfl) ?_
                  cases hj49
                  refine TO.s rfl rfl rfl (StepS.pickT rfl hb47 rfl) ?_
                  exact TO.up1 8 0 rfl rfl rfl rfl
                · replace hj49 := cond_f hb47 hj49
                  cases hj49
                  refine TO.skip rfl rfl rfl (skipF hb47) rfl rfl ?_
                  refine TO.skip rfl rfl rfl (skipF hb47) rfl rfl ?_
                  refine TO.skip rfl rfl rfl (skipF hb47) rfl rfl ?_
                  refine TO.skip rfl rfl rfl (skipF hb47) rfl rfl ?_
                  refine TO.skip rfl rfl rfl (skipF hb47) rfl rfl ?_
                  refine TO.skip rfl rfl rfl (skipF hb47) rfl rfl ?_
                  refine TO.skip rfl rfl rfl (skipF hb47) rfl rfl ?_
                  refine TO.s rfl rfl rfl (StepS.pickF rfl hb47 rfl) ?_
                  exact TO.up1 8 0 rfl rfl rfl rfl
              refine TO.s rfl rfl rfl (StepS.assign rfl) ?_
              refine TO.code ?_
              refine TC.region ?_
              refine TO.s rfl rfl rfl (StepS.ari rfl rfl rfl) ?_
              refine TO.s rfl rfl rfl (StepS.move rfl) ?_
              cases hb43
              refine TO.nil fun a w e s => ?_
              exact ⟨e.sub (lk_of_allIn ⟨rfl, rfl, rfl, rfl, rfl, rfl, rfl, rfl, rfl, rfl, rfl, rfl, rfl, rfl, trivial⟩), s⟩
            · replace hb43 := cond_f hc44 hb43
              cases hb43
              refine TC.exit rfl fun a w e s => ?_
              exact ⟨e.sub (lk_of_allIn ⟨rfl, rfl, rfl, rfl, rfl, rfl, rfl, rfl, rfl, rfl, rfl, trivial⟩), s⟩
          · exact fun a w e s => ⟨e.sub (lk_of_allIn ⟨rfl, rfl, rfl, rfl, rfl, rfl, rfl, rfl, rfl, rfl, rfl, rfl, rfl, rfl, trivial⟩), s⟩
          · rintro b40 rfl a w ⟨he, hs⟩
            dsimp only [Ctl.on] at hj22
            refine TC.use ?_ he hs
            refine TC.k ?_
            refine TC.region ?_
            refine TO.s rfl rfl rfl (StepS.move rfl) ?_
            refine TO.code ?_
            refine TC.cond rfl (fun hc55 => ?_) (fun hc55 => ?_)
            · replace hj22 := cond_t hc55 hj22
              refine TC.region ?_
              refine TO.s rfl rfl rfl (StepS.move rfl) ?_
              refine TO.s rfl rfl rfl (StepS.move rfl) ?_
              refine TO.litS (f := cI) ([x23] : List Int) kelemB_22_3_1_8_true kinfo_3_bind_zero_some_I_0 rfl rfl (fun _ => rfl) rfl rfl (by kernel_rfl) rfl fun v56 => ?_
              obtain ⟨y58, hk59, hj22⟩ := bind_some hj22
              refine TO.app (k := 1) (f := cI) kelemB_22_3_1_8_true (by decide) rfl rfl rfl (OwnS.rd (Ent.at 0 rfl)) hk59 (fun x c hc => by simp [Value.oneCell'] at hc ⊢; first | (obtain rfl := hc; rfl) | (rcases hc with rfl <;> rfl)) rfl rfl fun v60 => ?_
              refine TO.s rfl rfl rfl (StepS.assign rfl) ?_
              cases hj22
              refine TO.nil fun a w e s => ?_
              exact ⟨v60, e.sub (lk_of_allIn ⟨rfl, rfl, rfl, rfl, rfl, rfl, rfl, rfl, rfl, trivial⟩), s.mono fun _ => Sat.dropN 1⟩
            · replace hj22 := cond_f hc55 hj22
              cases hj22
              refine TC.skip fun a w e s => ?_
              exact ⟨v5, e.sub (lk_of_allIn ⟨rfl, rfl, rfl, rfl, rfl, rfl, rfl, rfl, rfl, trivial⟩), s⟩
          · rintro r rfl
            exact fun a w h => h.elim
      · intro a w ⟨v21, he, hs⟩
        refine TC.use ?_ he hs
        refine TC.region ?_
        refine TO.s rfl rfl rfl (StepS.ari rfl rfl rfl) ?_
        refine TO.s rfl rfl rfl (StepS.move rfl) ?_
        cases hb18
        refine TO.nil fun a w e s => ?_
        exact ⟨v21, e.sub (lk_of_allIn ⟨rfl, rfl, rfl, rfl, rfl, rfl, rfl, rfl, rfl, trivial⟩), s⟩
    · replace hb18 := cond_f hc19 hb18
      cases hb18
      refine TC.exit rfl fun a w e s => ?_
      exact ⟨v5, e.sub (lk_of_allIn ⟨rfl, trivial⟩), s⟩
  · exact fun a w e s => ⟨.slice none 0 0, e.sub (lk_of_allIn ⟨rfl, rfl, rfl, rfl, rfl, rfl, rfl, rfl, rfl, trivial⟩), s.mono fun _ s => (by replace s := Sat.nilS (e := 3) (sz := 1) (f := cI) s; exact Sat.by [0] 1 0 (by kernel_rfl) s)⟩
  · rintro y15 rfl a w ⟨v13, he, hs⟩
    dsimp only [Ctl.on] at hm
    refine TC.use ?_ he hs
    refine TC.k ?_
    refine TC.region ?_
    refine TO.s rfl rfl rfl (StepS.move rfl) ?_
    refine TO.s rfl rfl rfl (StepS.assign rfl) ?_
    refine TO.code ?_
    cases hm
    refine TC.ret fun a w e s => ?_
    refine FRet.mk1 (P := Try.prog) (fn := Try.f71) (t := 7) e rfl rfl ?_
    refine ⟨_, _, rfl, ⟨(v13), rfl, rfl⟩, ?_⟩
    refine s.mono fun _ s => ?_
    replace s := Sat.front 0 rfl s
    exact s
  · rintro r rfl
    exact fun a w h => h.elim

set_option maxHeartbeats 1000000 in
set_option maxRecDepth 100000 in
theorem C37 {B : World} {L : List HP} {a0 : Int} {a1 : List (Int × Int × Int × Int)} {h1 : Value} {r0 : (List Int) × (List (List Int)) × List Int} (e1 : Ent L (Rd 4 h1 (a1.map cTiiii))) (hm : F37 a0 a1 = some r0) {w : World} (st : St B L w) : Calls Try.prog 37 #[I a0, h1] w (fun e w' => ∃ v M, e = .returned v ∧ (∃ (qv1 : Value) (qv2 : Value) (qhs3 : List Value) (qv4 : Value), v = .agg #[qv1, qv2, qv4] ∧ M = (OwnS 28 1 qv1 (r0.1.map cI) :: SS 22 3 1 cI qv2 qhs3 (r0.2.1) :: OwnS 3 1 qv4 (r0.2.2.map cI) :: L)) ∧ St B M w') := by
  refine calls_of (N := 235) (L := L) (args := [I a0, h1]) Try.func37 rfl rfl rfl ?_ st
  dsimp only [F37] at hm
  refine TC.k ?_
  refine TC.region ?_
  refine TO.boxS rfl e1 rfl fun b4 => ?_
  refine TO.alloc kinfo_75_bind_zero_some_agg_slice_none_0_0_slice_none_0_0_slice_none_0_0 rfl rfl fun b5 => ?_
  refine TO.code ?_
  refine TC.k ?_
  refine TC.region ?_
  refine TO.s rfl rfl rfl (StepS.build (cs := [.slice none 0 0, .slice none 0 0, .slice none 0 0]) rfl (by kernel_rfl)) ?_
  refine TO.alloc kinfo_75_bind_zero_some_agg_slice_none_0_0_slice_none_0_0_slice_none_0_0 rfl rfl fun b6 => ?_
  refine TO.stB (us := [.slice none 0 0, .slice none 0 0, .slice none 0 0]) 0 [.slice none 0 0, .slice none 0 0, .slice none 0 0] rfl rfl rfl ksizeB_75_3_true rfl rfl rfl (by simp [Value.oneCell']) rfl ?_
  refine TO.code ?_
  refine TC.k ?_
  refine TC.region ?_
  refine TO.s rfl rfl rfl (StepS.move rfl) ?_
  obtain ⟨y7, hk8, hm⟩ := bind_some hm
  refine TO.mkSSg (ee := 3) (sz := 1) (f := cI) kelemB_50_22_1_24_true kinfo_22_bind_zero_some_slice_none_0_0 rfl rfl hk8 rfl fun v9 hs10 => ?_
  refine TO.alloc kinfo_50_bind_zero_some_slice_none_0_0 rfl rfl fun b12 => ?_
  refine TO.pure (fun _ s => Rd.one (RR.top (SS.rr (Ent.at 1 rfl))) s) fun oc13 => ?_
  refine TO.stB (us := [v9]) 0 [v9] rfl rfl rfl ksizeB_50_1_true oc13.2 rfl rfl (by intro u hu; simp only [List.mem_cons, List.not_mem_nil, or_false] at hu; rcases hu with rfl <;> first | exact oc13.1 | rfl) rfl ?_
  refine TO.code ?_
  refine TC.k ?_
  refine TC.region ?_
  refine TO.s rfl rfl rfl (StepS.ldB rfl (Ent.at 4 rfl) kscalB_23_true rfl) ?_
  refine TO.s rfl rfl rfl (StepS.lenm rfl e1.tl.tl.tl.tl.tl ksliceB_23_106_4_true rfl) ?_
  obtain ⟨y14, hk15, hm⟩ := bind_some hm
  refine TO.mkSSg (ee := 3) (sz := 1) (f := cI) kelemB_50_22_1_24_true kinfo_22_bind_zero_some_slice_none_0_0 rfl rfl hk15 rfl fun v16 hs17 => ?_
  refine TO.alloc kinfo_50_bind_zero_some_slice_none_0_0 rfl rfl fun b19 => ?_
  refine TO.pure (fun _ s => Rd.one (RR.top (SS.rr (Ent.at 1 rfl))) s) fun oc20 => ?_
  refine TO.stB (us := [v16]) 0 [v16] rfl rfl rfl ksizeB_50_1_true oc20.2 rfl rfl (by intro u hu; simp only [List.mem_cons, List.not_mem_nil, or_false] at hu; rcases hu with rfl <;> first | exact oc20.1 | rfl) rfl ?_
  refine TO.code ?_
  refine TC.k ?_
  refine TC.region ?_
  refine TO.s rfl rfl rfl (StepS.mkfn rfl) ?_
  refine TO.s rfl rfl rfl (StepS.assign rfl) ?_
  refine TO.code ?_
  refine TC.k ?_
  refine TC.k ?_
  refine TC.region ?_
  refine TO.s rfl rfl rfl (StepS.ldB rfl (Ent.at 6 rfl) kscalB_23_true rfl) ?_
  refine TO.s rfl rfl rfl (StepS.lenm rfl e1.tl.tl.tl.tl.tl.tl.tl ksliceB_23_106_4_true rfl) ?_
  refine TO.s rfl rfl rfl (StepS.move rfl) ?_
  refine TO.code ?_
  obtain ⟨o44, hw45, hm⟩ := bind_some hm
  refine TC.loop hw45 (fun (y23, y24, y26, x28) => fun a w => ∃ v21 : Value, ∃ hs25 : List Value, ∃ hs27 : List Value, Mid 235 B [(0, I a0), (3, .pointer (some ⟨b4, 0, none⟩)), (4, .pointer (some ⟨b5, 0, none⟩)), (5, .pointer (some ⟨b6, 0, none⟩)), (6, .pointer (some ⟨b12, 0, none⟩)), (7, .pointer (some ⟨b19, 0, none⟩)), (8, .func (.func 71) #[] #[.pointer (some ⟨b12, 0, none⟩), .pointer (some ⟨b4, 0, none⟩), .pointer (some ⟨b19, 0, none⟩)]), (27, h1), (28, I (a1.length : Int)), (29, I x28)] (OwnS 28 1 v21 (y23.map cI) :: Bx b19 50 [v16] :: SS 22 3 1 cI v16 hs25 (y24) :: Bx b12 50 [v9] :: SS 22 3 1 cI v9 hs27 (y26) :: Bx b6 75 [v21, .slice none 0 0, .slice none 0 0] :: Bx b5 75 [.slice none 0 0, .slice none 0 0, .slice none 0 0] :: Bx b4 23 [h1] :: L) a w) (fun (y39, y40, y42) => fun a w => ∃ v37 : Value, ∃ hs41 : List Value, ∃ hs43 : List Value, Mid 235 B [(0, I a0), (3, .pointer (some ⟨b4, 0, none⟩)), (4, .pointer (some ⟨b5, 0, none⟩)), (5, .pointer (some ⟨b6, 0, none⟩)), (6, .pointer (some ⟨b12, 0, none⟩)), (8, .func (.func 71) #[] #[.pointer (some ⟨b12, 0, none⟩), .pointer (some ⟨b4, 0, none⟩), .pointer (some ⟨b19, 0, none⟩)])] (OwnS 28 1 v37 (y39.map cI) :: Bx b19 50 [v16] :: SS 22 3 1 cI v16 hs41 (y40) :: Bx b12 50 [v9] :: SS 22 3 1 cI v9 hs43 (y42) :: Bx b6 75 [v37, .slice none 0 0, .slice none 0 0] :: Bx b5 75 [.slice none 0 0, .slice none 0 0, .slice none 0 0] :: Bx b4 23 [h1] :: L) a w) (fun (_ : Unit) _ _ => False) ?_ ?_ ?_ ?_
  · rintro ⟨y23, y24, y26, x28⟩ o44r hb46 a w ⟨v21, hs25, hs27, he, hs⟩
    dsimp only [F37_L0] at hb46
    refine TC.use ?_ he hs
    refine TC.k ?_
    refine TC.region ?_
    refine TO.s rfl rfl rfl (StepS.cmp rfl rfl rfl) ?_
    refine TO.code ?_
    refine TC.k ?_
    refine TC.cond rfl (fun hc47 => ?_) (fun hc47 => ?_)
    · replace hb46 := cond_t hc47 hb46
      refine TC.skipk ?_
      refine TC.k ?_
      refine TC.block ?_
      refine TC.k ?_
      refine TC.region ?_
      refine TO.s rfl rfl rfl (StepS.move rfl) ?_
      obtain ⟨x48, hx49, hb46⟩ := bind_some hb46
      refine TO.s rfl rfl rfl (StepS.idx rfl rfl e1.tl.tl.tl.tl.tl.tl.tl.tl ksliceB_23_106_4_true (idx_spec hx49).1 (idxm_lt hx49)) ?_
      refine TO.s rfl rfl rfl (StepS.ldE rfl e1.tl.tl.tl.tl.tl.tl.tl.tl kaggB_106_4_true rfl (idxm hx49)) ?_
      refine TO.alloc kinfo_106_bind_zero_some_agg_I_0_I_0_I_0_I_0 rfl rfl fun b50 => ?_
      refine TO.s rfl rfl rfl (StepS.assign rfl) ?_
      refine TO.stB (us := [I x48.1, I x48.2.1, I x48.2.2.1, I x48.2.2.2]) 0 [I x48.1, I x48.2.1, I x48.2.2.1, I x48.2.2.2] rfl rfl rfl ksizeB_106_4_true rfl rfl rfl (by simp [Value.oneCell']) rfl ?_
      refine TO.code ?_
      refine TC.k ?_
      refine TC.region ?_
      refine TO.s rfl rfl rfl (StepS.assign rfl) ?_
      refine TO.code ?_
      refine TC.k ?_
      refine TC.k ?_
      refine TC.region ?_
      refine TO.s rfl rfl rfl (StepS.fld rfl kfieldB_106_0_0_true) ?_
      refine TO.s rfl rfl rfl (StepS.ldB rfl (Ent.at 0 rfl) kscalB_3_true rfl) ?_
      refine TO.s rfl rfl rfl (StepS.cmp rfl rfl rfl) ?_
      refine TO.s rfl rfl rfl (StepS.move rfl) ?_
      refine TO.mid1 4 41 (.bool ((decide (x48.1 < 1)) || (decide (x48.1 > 4)))) ?_ ?_
      · refine bcase ((decide (x48.1 < 1))) (fun hb51 => ?_) (fun hb51 => ?_)
        · refine TO.skip rfl rfl rfl (skipT hb51) rfl rfl ?_
          refine TO.skip rfl rfl rfl (skipT hb51) rfl rfl ?_
          refine TO.skip rfl rfl rfl (skipT hb51) rfl rfl ?_
          refine TO.s rfl rfl rfl (StepS.pickT rfl hb51 rfl) ?_
          exact TO.up1 4 0 rfl rfl (by rw [hb51]; rfl) rfl
        · refine TO.sw rfl rfl rfl hb51 rfl rfl (StepS.fld rfl kfieldB_106_0_0_true) ?_
          refine TO.sw rfl rfl rfl hb51 rfl rfl (StepS.ldB rfl (Ent.at 0 rfl) kscalB_3_true rfl) ?_
          refine TO.sw rfl rfl rfl hb51 rfl rfl (StepS.cmp rfl rfl rfl) ?_
          refine TO.s rfl rfl rfl (StepS.pickF rfl hb51 rfl) ?_
          exact TO.up1 4 0 rfl rfl (by rw [hb51]; rfl) rfl
      refine TO.code ?_
      obtain ⟨⟨y52, y54, x56⟩, hj57, hb46⟩ := bind_some hb46
      first | refine TC.cutM (fun a w => ∃ hs53 : List Value, ∃ hs55 : List Value, Mid 235 B [(0, I a0), (3, .pointer (some ⟨b4, 0, none⟩)), (4, .pointer (some ⟨b5, 0, none⟩)), (5, .pointer (some ⟨b6, 0, none⟩)), (6, .pointer (some ⟨b12, 0, none⟩)), (7, .pointer (some ⟨b19, 0, none⟩)), (8, .func (.func 71) #[] #[.pointer (some ⟨b12, 0, none⟩), .pointer (some ⟨b4, 0, none⟩), .pointer (some ⟨b19, 0, none⟩)]), (11, I x56), (27, h1), (28, I (a1.length : Int)), (29, I x28)] (Bx b50 106 [I x48.1, I x48.2.1, I x48.2.2.1, I x48.2.2.2] :: OwnS 28 1 v21 (y23.map cI) :: Bx b19 50 [v16] :: SS 22 3 1 cI v16 hs53 (y52) :: Bx b12 50 [v9] :: SS 22 3 1 cI v9 hs55 (y54) :: Bx b6 75 [v21, .slice none 0 0, .slice none 0 0] :: Bx b5 75 [.slice none 0 0, .slice none 0 0, .slice none 0 0] :: Bx b4 23 [h1] :: L) a w) ?_ ?_ | refine TC.cutX (fun a w => ∃ hs53 : List Value, ∃ hs55 : List Value, Mid 235 B [(0, I a0), (3, .pointer (some ⟨b4, 0, none⟩)), (4, .pointer (some ⟨b5, 0, none⟩)), (5, .pointer (some ⟨b6, 0, none⟩)), (6, .pointer (some ⟨b12, 0, none⟩)), (7, .pointer (some ⟨b19, 0, none⟩)), (8, .func (.func 71) #[] #[.pointer (some ⟨b12, 0, none⟩), .pointer (some ⟨b4, 0, none⟩), .pointer (some ⟨b19, 0, none⟩)]), (11, I x56), (27, h1), (28, I (a1.length : Int)), (29, I x28)] (Bx b50 106 [I x48.1, I x48.2.1, I x48.2.2.1, I x48.2.2.2] :: OwnS 28 1 v21 (y23.map cI) :: Bx b19 50 [v16] :: SS 22 3 1 cI v16 hs53 (y52) :: Bx b12 50 [v9] :: SS 22 3 1 cI v9 hs55 (y54) :: Bx b6 75 [v21, .slice none 0 0, .slice none 0 0] :: Bx b5 75 [.slice none 0 0, .slice none 0 0, .slice none 0 0] :: Bx b4 23 [h1] :: L) a w) ?_ ?_
      · refine TC.cond rfl (fun hc58 => ?_) (fun hc58 => ?_)
        · replace hj57 := cond_t hc58 hj57
          refine TC.region ?_
          refine TO.s rfl rfl rfl (StepS.assign rfl) ?_
          cases hj57
          refine TO.nil fun a w e s => ?_
          exact ⟨hs25, hs27, e.sub (lk_of_allIn ⟨rfl, rfl, rfl, rfl, rfl, rfl, rfl, rfl, rfl, rfl, rfl, trivial⟩), s⟩
        · replace hj57 := cond_f hc58 hj57
          refine TC.k ?_
          refine TC.region ?_
          refine TO.s rfl rfl rfl (StepS.fld rfl kfieldB_106_1_1_true) ?_
          refine TO.s rfl rfl rfl (StepS.ldB rfl (Ent.at 0 rfl) kscalB_3_true rfl) ?_
          refine TO.s rfl rfl rfl (StepS.cmp rfl rfl rfl) ?_
          refine TO.s rfl rfl rfl (StepS.move rfl) ?_
          refine TO.mid1 5 50 (.bool ((decide (x48.2.1 < 0)) || (decide (x48.2.1 ≥ a0)))) ?_ ?_
          · refine bcase ((decide (x48.2.1 < 0))) (fun hb59 => ?_) (fun hb59 => ?_)
            · refine TO.skip rfl rfl rfl (skipT hb59) rfl rfl ?_
              refine TO.skip rfl rfl rfl (skipT hb59) rfl rfl ?_
              refine TO.skip rfl rfl rfl (skipT hb59) rfl rfl ?_
              refine TO.skip rfl rfl rfl (skipT hb59) rfl rfl ?_
              refine TO.s rfl rfl rfl (StepS.pickT rfl hb59 rfl) ?_
              exact TO.up1 5 0 rfl rfl (by rw [hb59]; rfl) rfl
            · refine TO.sw rfl rfl rfl hb59 rfl rfl (StepS.fld rfl kfieldB_106_1_1_true) ?_
              refine TO.sw rfl rfl rfl hb59 rfl rfl (StepS.ldB rfl (Ent.at 0 rfl) kscalB_3_true rfl) ?_
              refine TO.sw rfl rfl rfl hb59 rfl rfl (StepS.move rfl) ?_
              refine TO.sw rfl rfl rfl hb59 rfl rfl (StepS.cmp rfl rfl rfl) ?_
              refine TO.s rfl rfl rfl (StepS.pickF rfl hb59 rfl) ?_
              exact TO.up1 5 0 rfl rfl (by rw [hb59]; rfl) rfl
          refine TO.s rfl rfl rfl (StepS.move rfl) ?_
          refine TO.mid1 15 66 (.bool (((decide (x48.2.1 < 0)) || (decide (x48.2.1 ≥ a0))) || ((x48.1 == 4) && ((decide (x48.2.2.1 < 0)) || (decide (x48.2.2.1 ≥ a0)))))) ?_ ?_
          · refine bcase (((decide (x48.2.1 < 0)) || (decide (x48.2.1 ≥ a0)))) (fun hb60 => ?_) (fun hb60 => ?_)
            · refine TO.skip rfl rfl rfl (skipT hb60) rfl rfl ?_
              refine TO.skip rfl rfl rfl (skipT hb60) rfl rfl ?_
              refine TO.skip rfl rfl rfl (skipT hb60) rfl rfl ?_
              refine TO.skip rfl rfl rfl (skipT hb60) rfl rfl ?_
              refine TO.skip rfl rfl rfl skipU rfl rfl ?_
              refine TO.skip rfl rfl rfl skipU rfl rfl ?_
              refine TO.skip rfl rfl rfl skipU rfl rfl ?_
              refine TO.skip rfl rfl rfl skipU rfl rfl ?_
              refine TO.skip rfl rfl rfl skipU rfl rfl ?_
              refine TO.skip rfl rfl rfl skipU rfl rfl ?_
              refine TO.skip rfl rfl rfl skipU rfl rfl ?_
              refine TO.skip rfl rfl rfl skipU rfl rfl ?_
              refine TO.skip rfl rfl rfl skipU rfl rfl ?_
              refine TO.skip rfl rfl rfl (skipT hb60) rfl rfl ?_
              refine TO.s rfl rfl rfl (StepS.pickT rfl hb60 rfl) ?_
              exact TO.up1 15 0 rfl rfl (by rw [hb60]; rfl) rfl
            · refine TO.sw rfl rfl rfl hb60 rfl rfl (StepS.fld rfl kfieldB_106_0_0_true) ?_
              refine TO.sw rfl rfl rfl hb60 rfl rfl (StepS.ldB rfl (Ent.at 0 rfl) kscalB_3_true rfl) ?_
              refine TO.sw rfl rfl rfl hb60 rfl rfl (StepS.cmp rfl rfl rfl) ?_
              refine TO.sw rfl rfl rfl hb60 rfl rfl (StepS.move rfl) ?_
              refine TO.mid1 10 65 (.bool ((x48.1 == 4) && ((decide (x48.2.2.1 < 0)) || (decide (x48.2.2.1 ≥ a0))))) ?_ ?_
              · refine bcase ((x48.1 == 4)) (fun hb61 => ?_) (fun hb61 => ?_)
                · refine TO.sw rfl rfl rfl hb61 rfl rfl (StepS.fld rfl kfieldB_106_2_2_true) ?_
                  refine TO.sw rfl rfl rfl hb61 rfl rfl (StepS.ldB rfl (Ent.at 0 rfl) kscalB_3_true rfl) ?_
                  refine TO.sw rfl rfl rfl hb61 rfl rfl (StepS.cmp rfl rfl rfl) ?_
                  refine TO.sw rfl rfl rfl hb61 rfl rfl (StepS.move rfl) ?_
                  refine TO.mid1 5 64 (.bool ((decide (x48.2.2.1 < 0)) || (decide (x48.2.2.1 ≥ a0)))) ?_ ?_
                  · refine bcase ((decide (x48.2.2.1 < 0))) (fun hb62 => ?_) (fun hb62 => ?_)
                    · refine TO.skip rfl rfl rfl (skipT hb62) rfl rfl ?_
                      refine TO.skip rfl rfl rfl (skipT hb62) rfl rfl ?_
                      refine TO.skip rfl rfl rfl (skipT hb62) rfl rfl ?_
                      refine TO.skip rfl rfl rfl (skipT hb62) rfl rfl ?_
                      refine TO.sw rfl rfl rfl hb61 rfl rfl (StepS.pickT rfl hb62 rfl) ?_
                      exact TO.up1 5 0 rfl rfl (by rw [hb62]; rfl) rfl
                    · refine TO.sw rfl rfl rfl hb62 rfl rfl (StepS.fld rfl kfieldB_106_2_2_true) ?_
                      refine TO.sw rfl rfl rfl hb62 rfl rfl (StepS.ldB rfl (Ent.at 0 rfl) kscalB_3_true rfl) ?_
                      refine TO.sw rfl rfl rfl hb62 rfl rfl (StepS.move rfl) ?_
                      refine TO.sw rfl rfl rfl hb62 rfl rfl (StepS.cmp rfl rfl rfl) ?_
                      refine TO.sw rfl rfl rfl hb61 rfl rfl (StepS.pickF rfl hb62 rfl) ?_
                      exact TO.up1 5 0 rfl rfl (by rw [hb62]; rfl) rfl
                  refine TO.sw rfl rfl rfl hb60 rfl rfl (StepS.pickT rfl hb61 rfl) ?_
                  exact TO.up1 6 0 rfl rfl (by rw [hb61]; rfl) rfl
                · refine TO.skip rfl rfl rfl (skipF hb61) rfl rfl ?_
                  refine TO.skip rfl rfl rfl (skipF hb61) rfl rfl ?_
                  refine TO.skip rfl rfl rfl (skipF hb61) rfl rfl ?_
                  refine TO.skip rfl rfl rfl (skipF hb61) rfl rfl ?_
                  refine TO.skip rfl rfl rfl skipU rfl rfl ?_
                  refine TO.skip rfl rfl rfl skipU rfl rfl ?_
                  refine TO.skip rfl rfl rfl skipU rfl rfl ?_
                  refine TO.skip rfl rfl rfl skipU rfl rfl ?_
                  refine TO.skip rfl rfl rfl (skipF hb61) rfl rfl ?_
                  refine TO.sw rfl rfl rfl hb60 rfl rfl (StepS.pickF rfl hb61 rfl) ?_
                  exact TO.up1 10 0 rfl rfl (by rw [hb61]; rfl) rfl
              refine TO.s rfl rfl rfl (StepS.pickF rfl hb60 rfl) ?_
              exact TO.up1 6 0 rfl rfl (by rw [hb60]; rfl) rfl
          refine TO.code ?_
          refine TC.cond rfl (fun hc63 => ?_) (fun hc63 => ?_)
          · replace hj57 := cond_t hc63 hj57
            refine TC.region ?_
            refine TO.s rfl rfl rfl (StepS.assign rfl) ?_
            cases hj57
            refine TO.nil fun a w e s => ?_
            exact ⟨hs25, hs27, e.sub (lk_of_allIn ⟨rfl, rfl, rfl, rfl, rfl, rfl, rfl, rfl, rfl, rfl, rfl, trivial⟩), s⟩
          · replace hj57 := cond_f hc63 hj57
            refine TC.k ?_
            refine TC.region ?_
            refine TO.s rfl rfl rfl (StepS.fld rfl kfieldB_106_0_0_true) ?_
            refine TO.s rfl rfl rfl (StepS.ldB rfl (Ent.at 0 rfl) kscalB_3_true rfl) ?_
            refine TO.s rfl rfl rfl (StepS.cmp rfl rfl rfl) ?_
            refine TO.s rfl rfl rfl (StepS.move rfl) ?_
            refine TO.mid1 4 74 (.bool ((x48.1 == 1) || (x48.1 == 2))) ?_ ?_
            · refine bcase ((x48.1 == 1)) (fun hb64 => ?_) (fun hb64 => ?_)
              · refine TO.skip rfl rfl rfl (skipT hb64) rfl rfl ?_
                refine TO.skip rfl rfl rfl (skipT hb64) rfl rfl ?_
                refine TO.skip rfl rfl rfl (skipT hb64) rfl rfl ?_
                refine TO.s rfl rfl rfl (StepS.pickT rfl hb64 rfl) ?_
                exact TO.up1 4 0 rfl rfl (by rw [hb64]; rfl) rfl
              · refine TO.sw rfl rfl rfl hb64 rfl rfl (StepS.fld rfl kfieldB_106_0_0_true) ?_
                refine TO.sw rfl rfl rfl hb64 rfl rfl (StepS.ldB rfl (Ent.at 0 rfl) kscalB_3_true rfl) ?_
                refine TO.sw rfl rfl rfl hb64 rfl rfl (StepS.cmp rfl rfl rfl) ?_
                refine TO.s rfl rfl rfl (StepS.pickF rfl hb64 rfl) ?_
                exact TO.up1 4 0 rfl rfl (by rw [hb64]; rfl) rfl
            refine TO.s rfl rfl rfl (StepS.move rfl) ?_
            refine TO.mid1 9 84 (.bool (((x48.1 == 1) || (x48.1 == 2)) && ((decide (x48.2.2.2 < 0)) || (decide (x48.2.2.2 > 8))))) ?_ ?_
            · refine bcase (((x48.1 == 1) || (x48.1 == 2))) (fun hb65 => ?_) (fun hb65 => ?_)
              · refine TO.sw rfl rfl rfl hb65 rfl rfl (StepS.fld rfl kfieldB_106_3_3_true) ?_
                refine TO.sw rfl rfl rfl hb65 rfl rfl (StepS.ldB rfl (Ent.at 0 rfl) kscalB_3_true rfl) ?_
                refine TO.sw rfl rfl rfl hb65 rfl rfl (StepS.cmp rfl rfl rfl) ?_
                refine TO.sw rfl rfl rfl hb65 rfl rfl (StepS.move rfl) ?_
                refine TO.mid1 4 83 (.bool ((decide (x48.2.2.2 < 0)) || (decide (x48.2.2.2 > 8)))) ?_ ?_
                · refine bcase ((decide (x48.2.2.2 < 0))) (fun hb66 => ?_) (fun hb66 => ?_)
                  · refine TO.skip rfl rfl rfl (skipT hb66) rfl rfl ?_
                    refine TO.skip rfl rfl rfl (skipT hb66) rfl rfl ?_
                    refine TO.skip rfl rfl rfl (skipT hb66) rfl rfl ?_
                    refine TO.sw rfl rfl rfl hb65 rfl rfl (StepS.pickT rfl hb66 rfl) ?_
                    exact TO.up1 4 0 rfl rfl (by rw [hb66]; rfl) rfl
                  · refine TO.sw rfl rfl rfl hb66 rfl rfl (StepS.fld rfl kfieldB_106_3_3_true) ?_
                    refine TO.sw rfl rfl rfl hb66 rfl rfl (StepS.ldB rfl (Ent.at 0 rfl) kscalB_3_true rfl) ?_
                    refine TO.sw rfl rfl rfl hb66 rfl rfl (StepS.cmp rfl rfl rfl) ?_
                    refine TO.sw rfl rfl rfl hb65 rfl rfl (StepS.pickF rfl hb66 rfl) ?_
                    exact TO.up1 4 0 rfl rfl (by rw [hb66]; rfl) rfl
                refine TO.s rfl rfl rfl (StepS.pickT rfl hb65 rfl) ?_
                exact TO.up1 6 0 rfl rfl (by rw [hb65]; rfl) rfl
              · refine TO.skip rfl rfl rfl (skipF hb65) rfl rfl ?_
                refine TO.skip rfl rfl rfl (skipF hb65) rfl rfl ?_
                refine TO.skip rfl rfl rfl (skipF hb65) rfl rfl ?_
                refine TO.skip rfl rfl rfl (skipF hb65) rfl rfl ?_
                refine TO.skip rfl rfl rfl skipU rfl rfl ?_
                refine TO.skip rfl rfl rfl skipU rfl rfl ?_
                refine TO.skip rfl rfl rfl skipU rfl rfl ?_
                refine TO.skip rfl rfl rfl (skipF hb65) rfl rfl ?_
                refine TO.s rfl rfl rfl (StepS.pickF rfl hb65 rfl) ?_
                exact TO.up1 9 0 rfl rfl (by rw [hb65]; rfl) rfl
            refine TO.s rfl rfl rfl (StepS.move rfl) ?_
            refine TO.mid1 14 99 (.bool ((((x48.1 == 1) || (x48.1 == 2)) && ((decide (x48.2.2.2 < 0)) || (decide (x48.2.2.2 > 8)))) || (((x48.1 == 3) && (x48.2.2.2 != 1)) && (x48.2.2.2 != (-1))))) ?_ ?_
            · refine bcase ((((x48.1 == 1) || (x48.1 == 2)) && ((decide (x48.2.2.2 < 0)) || (decide (x48.2.2.2 > 8))))) (fun hb67 => ?_) (fun hb67 => ?_)
              · refine TO.skip rfl rfl rfl (skipT hb67) rfl rfl ?_
                refine TO.skip rfl rfl rfl (skipT hb67) rfl rfl ?_
                refine TO.skip rfl rfl rfl (skipT hb67) rfl rfl ?_
                refine TO.skip rfl rfl rfl (skipT hb67) rfl rfl ?_
                refine TO.skip rfl rfl rfl skipU rfl rfl ?_
                refine TO.skip rfl rfl rfl skipU rfl rfl ?_
                refine TO.skip rfl rfl rfl skipU rfl rfl ?_
                refine TO.skip rfl rfl rfl (skipT hb67) rfl rfl ?_
                refine TO.skip rfl rfl rfl (skipT hb67) rfl rfl ?_
                refine TO.skip rfl rfl rfl skipU rfl rfl ?_
                refine TO.skip rfl rfl rfl skipU rfl rfl ?_
                refine TO.skip rfl rfl rfl skipU rfl rfl ?_
                refine TO.skip rfl rfl rfl (skipT hb67) rfl rfl ?_
                refine TO.s rfl rfl rfl (StepS.pickT rfl hb67 rfl) ?_
                exact TO.up1 14 0 rfl rfl (by rw [hb67]; rfl) rfl
              · refine TO.sw rfl rfl rfl hb67 rfl rfl (StepS.fld rfl kfieldB_106_0_0_true) ?_
                refine TO.sw rfl rfl rfl hb67 rfl rfl (StepS.ldB rfl (Ent.at 0 rfl) kscalB_3_true rfl) ?_
                refine TO.sw rfl rfl rfl hb67 rfl rfl (StepS.cmp rfl rfl rfl) ?_
                refine TO.sw rfl rfl rfl hb67 rfl rfl (StepS.move rfl) ?_
                refine TO.mid1 4 93 (.bool ((x48.1 == 3) && (x48.2.2.2 != 1))) ?_ ?_
                · refine bcase ((x48.1 == 3)) (fun hb68 => ?_) (fun hb68 => ?_)
                  · refine TO.sw rfl rfl rfl hb68 rfl rfl (StepS.fld rfl kfieldB_106_3_3_true) ?_
                    refine TO.sw rfl rfl rfl hb68 rfl rfl (StepS.ldB rfl (Ent.at 0 rfl) kscalB_3_true rfl) ?_
                    refine TO.sw rfl rfl rfl hb68 rfl rfl (StepS.cmp rfl rfl rfl) ?_
                    refine TO.sw rfl rfl rfl hb67 rfl rfl (StepS.pickT rfl hb68 rfl) ?_
                    exact TO.up1 4 0 rfl rfl (by rw [hb68]; rfl) rfl
                  · refine TO.skip rfl rfl rfl (skipF hb68) rfl rfl ?_
                    refine TO.skip rfl rfl rfl (skipF hb68) rfl rfl ?_
                    refine TO.skip rfl rfl rfl (skipF hb68) rfl rfl ?_
                    refine TO.sw rfl rfl rfl hb67 rfl rfl (StepS.pickF rfl hb68 rfl) ?_
                    exact TO.up1 4 0 rfl rfl (by rw [hb68]; rfl) rfl
                refine TO.sw rfl rfl rfl hb67 rfl rfl (StepS.move rfl) ?_
                refine TO.mid1 4 98 (.bool (((x48.1 == 3) && (x48.2.2.2 != 1)) && (x48.2.2.2 != (-1)))) ?_ ?_
                · refine bcase (((x48.1 == 3) && (x48.2.2.2 != 1))) (fun hb69 => ?_) (fun hb69 => ?_)
                  · refine TO.sw rfl rfl rfl hb69 rfl rfl (StepS.fld rfl kfieldB_106_3_3_true) ?_
                    refine TO.sw rfl rfl rfl hb69 rfl rfl (StepS.ldB rfl (Ent.at 0 rfl) kscalB_3_true rfl) ?_
                    refine TO.sw rfl rfl rfl hb69 rfl rfl (StepS.cmp rfl rfl rfl) ?_
                    refine TO.sw rfl rfl rfl hb67 rfl rfl (StepS.pickT rfl hb69 rfl) ?_
                    exact TO.up1 4 0 rfl rfl (by rw [hb69]; rfl) rfl
                  · refine TO.skip rfl rfl rfl (skipF hb69) rfl rfl ?_
                    refine TO.skip rfl rfl rfl (skipF hb69) rfl rfl ?_
                    refine TO.skip rfl rfl rfl (skipF hb69) rfl rfl ?_
                    refine TO.sw rfl rfl rfl hb67 rfl rfl (StepS.pickF rfl hb69 rfl) ?_
                    exact TO.up1 4 0 rfl rfl (by rw [hb69]; rfl) rfl
                refine TO.s rfl rfl rfl (StepS.pickF rfl hb67 rfl) ?_
                exact TO.up1 8 0 rfl rfl (by rw [hb67]; rfl) rfl
            refine TO.code ?_
            refine TC.cond rfl (fun hc70 => ?_) (fun hc70 => ?_)
            · replace hj57 := cond_t hc70 hj57
              refine TC.region ?_
              refine TO.s rfl rfl rfl (StepS.assign rfl) ?_
              cases hj57
              refine TO.nil fun a w e s => ?_
              exact ⟨hs25, hs27, e.sub (lk_of_allIn ⟨rfl, rfl, rfl, rfl, rfl, rfl, rfl, rfl, rfl, rfl, rfl, trivial⟩), s⟩
            · replace hj57 := cond_f hc70 hj57
              refine TC.k ?_
              refine TC.region ?_
              refine TO.s rfl rfl rfl (StepS.fld rfl kfieldB_106_0_0_true) ?_
              refine TO.s rfl rfl rfl (StepS.ldB rfl (Ent.at 0 rfl) kscalB_3_true rfl) ?_
              refine TO.s rfl rfl rfl (StepS.cmp rfl rfl rfl) ?_
              refine TO.s rfl rfl rfl (StepS.move rfl) ?_
              obtain ⟨b72, hj73, hj57⟩ := bind_some hj57
              refine TO.mid1 9 112 (.bool b72) ?_ ?_
              · refine bcase ((x48.1 == 2)) (fun hb71 => ?_) (fun hb71 => ?_)
                · replace hj73 := cond_t hb71 hj73
                  refine TO.sw rfl rfl rfl hb71 rfl rfl (StepS.move rfl) ?_
                  refine TO.sw rfl rfl rfl hb71 rfl rfl (StepS.fld rfl kfieldB_106_1_1_true) ?_
                  refine TO.sw rfl rfl rfl hb71 rfl rfl (StepS.ldB rfl (Ent.at 0 rfl) kscalB_3_true rfl) ?_
                  refine TO.sw rfl rfl rfl hb71 rfl rfl (StepS.fld rfl kfieldB_106_3_3_true) ?_
                  refine TO.sw rfl rfl rfl hb71 rfl rfl (StepS.ldB rfl (Ent.at 0 rfl) kscalB_3_true rfl) ?_
                  obtain ⟨r74, hc75, hj73⟩ := bind_some hj73
                  refine TO.callOCw rfl rfl hb71 kcallB_71_true rfl rfl rfl rfl (fun _ st => C71 (Ent.at 4 rfl) (SS.rr (Ent.at 5 rfl)) (Ent.at 8 rfl) e1.tl.tl.tl.tl.tl.tl.tl.tl.tl (Ent.at 2 rfl) (SS.rr (Ent.at 3 rfl)) hc75 st) ?_
                  rintro v76 _ ⟨_, rfl, rfl⟩
                  refine TO.sw rfl rfl rfl hb71 rfl rfl (StepS.lenm rfl (OwnS.rd (Ent.at 0 rfl)) ksliceB_22_3_1_true rfl) ?_
                  refine TO.sw rfl rfl rfl hb71 rfl rfl (StepS.cmp rfl rfl rfl) ?_
                  cases hj73
                  refine TO.s rfl rfl rfl (StepS.pickT rfl hb71 rfl) ?_
                  exact TO.up1 9 1 rfl rfl rfl rfl
                · replace hj73 := cond_f hb71 hj73
                  cases hj73
                  refine TO.skip rfl rfl rfl (skipF hb71) rfl rfl ?_
                  refine TO.skip rfl rfl rfl (skipF hb71) rfl rfl ?_
                  refine TO.skip rfl rfl rfl (skipF hb71) rfl rfl ?_
                  refine TO.skip rfl rfl rfl (skipF hb71) rfl rfl ?_
                  refine TO.skip rfl rfl rfl (skipF hb71) rfl rfl ?_
                  refine TO.skip rfl rfl rfl (skipF hb71) rfl rfl ?_
                  refine TO.skip rfl rfl rfl (skipF hb71) rfl rfl ?_
                  refine TO.skip rfl rfl rfl (skipF hb71) rfl rfl ?_
                  refine TO.s rfl rfl rfl (StepS.pickF rfl hb71 rfl) ?_
                  exact TO.up1 9 0 rfl rfl rfl rfl
              refine TO.code ?_
              refine TC.cond rfl (fun hc78 => ?_) (fun hc78 => ?_)
              · replace hj57 := cond_t hc78 hj57
                refine TC.region ?_
                refine TO.s rfl rfl rfl (StepS.assign rfl) ?_
                cases hj57
                refine TO.nil fun a w e s => ?_
                exact ⟨hs25, hs27, e.sub (lk_of_allIn ⟨rfl, rfl, rfl, rfl, rfl, rfl, rfl, rfl, rfl, rfl, rfl, trivial⟩), s⟩
              · replace hj57 := cond_f hc78 hj57
                refine TC.k ?_
                refine TC.region ?_
                refine TO.s rfl rfl rfl (StepS.fld rfl kfieldB_106_0_0_true) ?_
                refine TO.s rfl rfl rfl (StepS.ldB rfl (Ent.at 0 rfl) kscalB_3_true rfl) ?_
                refine TO.s rfl rfl rfl (StepS.cmp rfl rfl rfl) ?_
                refine TO.code ?_
                refine TC.cond rfl (fun hc79 => ?_) (fun hc79 => ?_)
                · replace hj57 := cond_t hc79 hj57
                  refine TC.k ?_
                  refine TC.region ?_
                  refine TO.lit0 (f := cI) ksliceB_22_3_1_true rfl fun v80 => ?_
                  refine TO.s rfl rfl rfl (StepS.ldB rfl (Ent.at 5 rfl) kscalB_50_true rfl) ?_
                  refine TO.s rfl rfl rfl (StepS.fld rfl kfieldB_106_2_2_true) ?_
                  refine TO.s rfl rfl rfl (StepS.ldB rfl (Ent.at 1 rfl) kscalB_3_true rfl) ?_
                  obtain ⟨x82, hx83, hj57⟩ := bind_some hj57
                  refine TO.s rfl rfl rfl (StepS.idxRR rfl rfl (SS.rr (Ent.at 6 rfl)) ksliceB_50_22_1_true hx83) ?_
                  refine TO.s rfl rfl rfl (StepS.ldRR rfl (SS.rr (Ent.at 6 rfl)) kscalB_22_true hx83) ?_
                  obtain ⟨y85, hk86, hj57⟩ := bind_some hj57
                  refine TO.app (k := 0) (f := cI) kelemB_22_3_1_8_true (by decide) rfl rfl rfl (RR.row (SS.rr (Ent.at 6 rfl)) hx83) hk86 (fun x c hc => by simp [Value.oneCell'] at hc ⊢; first | (obtain rfl := hc; rfl) | (rcases hc with rfl <;> rfl)) rfl rfl fun v87 => ?_
                  refine TO.s rfl rfl rfl (StepS.lenm rfl (OwnS.rd (Ent.at 0 rfl)) ksliceB_22_3_1_true rfl) ?_
                  refine TO.s rfl rfl rfl (StepS.move rfl) ?_
                  refine TO.code ?_
                  obtain ⟨o96, hw97, hj57⟩ := bind_some hj57
                  refine TC.loop hw97 (fun (y88, x90) => fun a w => ∃ hs89 : List Value, Mid 235 B [(0, I a0), (3, .pointer (some ⟨b4, 0, none⟩)), (4, .pointer (some ⟨b5, 0, none⟩)), (5, .pointer (some ⟨b6, 0, none⟩)), (6, .pointer (some ⟨b12, 0, none⟩)), (7, .pointer (some ⟨b19, 0, none⟩)), (8, .func (.func 71) #[] #[.pointer (some ⟨b12, 0, none⟩), .pointer (some ⟨b4, 0, none⟩), .pointer (some ⟨b19, 0, none⟩)]), (10, .pointer (some ⟨b50, 0, none⟩)), (11, I 0), (27, h1), (28, I (a1.length : Int)), (29, I x28), (122, v87), (123, I (y85.length : Int)), (124, I x90)] (OwnS 3 1 v87 (y85.map cI) :: Bx b50 106 [I x48.1, I x48.2.1, I x48.2.2.1, I x48.2.2.2] :: OwnS 28 1 v21 (y23.map cI) :: Bx b19 50 [v16] :: SS 22 3 1 cI v16 hs25 (y24) :: Bx b12 50 [v9] :: SS 22 3 1 cI v9 hs89 (y88) :: Bx b6 75 [v21, .slice none 0 0, .slice none 0 0] :: Bx b5 75 [.slice none 0 0, .slice none 0 0, .slice none 0 0] :: Bx b4 23 [h1] :: L) a w) (fun y94 => fun a w => ∃ hs95 : List Value, Mid 235 B [(0, I a0), (3, .pointer (some ⟨b4, 0, none⟩)), (4, .pointer (some ⟨b5, 0, none⟩)), (5, .pointer (some ⟨b6, 0, none⟩)), (6, .pointer (some ⟨b12, 0, none⟩)), (7, .pointer (some ⟨b19, 0, none⟩)), (8, .func (.func 71) #[] #[.pointer (some ⟨b12, 0, none⟩), .pointer (some ⟨b4, 0, none⟩), .pointer (some ⟨b19, 0, none⟩)]), (11, I 0), (27, h1), (28, I (a1.length : Int)), (29, I x28)] (OwnS 3 1 v87 (y85.map cI) :: Bx b50 106 [I x48.1, I x48.2.1, I x48.2.2.1, I x48.2.2.2] :: OwnS 28 1 v21 (y23.map cI) :: Bx b19 50 [v16] :: SS 22 3 1 cI v16 hs25 (y24) :: Bx b12 50 [v9] :: SS 22 3 1 cI v9 hs95 (y94) :: Bx b6 75 [v21, .slice none 0 0, .slice none 0 0] :: Bx b5 75 [.slice none 0 0, .slice none 0 0, .slice none 0 0] :: Bx b4 23 [h1] :: L) a w) (fun (_ : Unit) _ _ => False) ?_ ?_ ?_ ?_
                  · rintro ⟨y88, x90⟩ o96r hb98 a w ⟨hs89, he, hs⟩
                    dsimp only [F37_L1] at hb98
                    refine TC.use ?_ he hs
                    refine TC.k ?_
                    refine TC.region ?_
                    refine TO.s rfl rfl rfl (StepS.cmp rfl rfl rfl) ?_
                    refine TO.code ?_
                    refine TC.k ?_
                    refine TC.cond rfl (fun hc99 => ?_) (fun hc99 => ?_)
                    · replace hb98 := cond_t hc99 hb98
                      refine TC.skipk ?_
                      refine TC.k ?_
                      obtain ⟨y100, hj102, hb98⟩ := bind_some hb98
                      first | refine TC.cutM (fun a w => ∃ hs101 : List Value, Mid 235 B [(0, I a0), (3, .pointer (some ⟨b4, 0, none⟩)), (4, .pointer (some ⟨b5, 0, none⟩)), (5, .pointer (some ⟨b6, 0, none⟩)), (6, .pointer (some ⟨b12, 0, none⟩)), (7, .pointer (some ⟨b19, 0, none⟩)), (8, .func (.func 71) #[] #[.pointer (some ⟨b12, 0, none⟩), .pointer (some ⟨b4, 0, none⟩), .pointer (some ⟨b19, 0, none⟩)]), (10, .pointer (some ⟨b50, 0, none⟩)), (11, I 0), (27, h1), (28, I (a1.length : Int)), (29, I x28), (122, v87), (123, I (y85.length : Int)), (124, I x90)] (OwnS 3 1 v87 (y85.map cI) :: Bx b50 106 [I x48.1, I x48.2.1, I x48.2.2.1, I x48.2.2.2] :: OwnS 28 1 v21 (y23.map cI) :: Bx b19 50 [v16] :: SS 22 3 1 cI v16 hs25 (y24) :: Bx b12 50 [v9] :: SS 22 3 1 cI v9 hs101 (y100) :: Bx b6 75 [v21, .slice none 0 0, .slice none 0 0] :: Bx b5 75 [.slice none 0 0, .slice none 0 0, .slice none 0 0] :: Bx b4 23 [h1] :: L) a w) ?_ ?_ | refine TC.cutX (fun a w => ∃ hs101 : List Value, Mid 235 B [(0, I a0), (3, .pointer (some ⟨b4, 0, none⟩)), (4, .pointer (some ⟨b5, 0, none⟩)), (5, .pointer (some ⟨b6, 0, none⟩)), (6, .pointer (some ⟨b12, 0, none⟩)), (7, .pointer (some ⟨b19, 0, none⟩)), (8, .func (.func 71) #[] #[.pointer (some ⟨b12, 0, none⟩), .pointer (some ⟨b4, 0, none⟩), .pointer (some ⟨b19, 0, none⟩)]), (10, .pointer (some ⟨b50, 0, none⟩)), (11, I 0), (27, h1), (28, I (a1.length : Int)), (29, I x28), (122, v87), (123, I (y85.length : Int)), (124, I x90)] (OwnS 3 1 v87 (y85.map cI) :: Bx b50 106 [I x48.1, I x48.2.1, I x48.2.2.1, I x48.2.2.2] :: OwnS 28 1 v21 (y23.map cI) :: Bx b19 50 [v16] :: SS 22 3 1 cI v16 hs25 (y24) :: Bx b12 50 [v9] :: SS 22 3 1 cI v9 hs101 (y100) :: Bx b6 75 [v21, .slice none 0 0, .slice none 0 0] :: Bx b5 75 [.slice none 0 0, .slice none 0 0, .slice none 0 0] :: Bx b4 23 [h1] :: L) a w) ?_ ?_
                      · refine TC.block ?_
                        refine TC.k ?_
                        refine TC.region ?_
                        obtain ⟨x103, hx104, hj102⟩ := bind_some hj102
                        refine TO.s rfl rfl rfl (StepS.idx rfl rfl (OwnS.rd (Ent.at 0 rfl)) ksliceB_22_3_1_true (idx_spec hx104).1 (idxm_lt hx104)) ?_
                        refine TO.s rfl rfl rfl (StepS.ld0 rfl (OwnS.rd (Ent.at 0 rfl)) kscalB_3_true rfl (idxm hx104) rfl) ?_
                        refine TO.s rfl rfl rfl (StepS.assign rfl) ?_
                        refine TO.code ?_
                        refine TC.k ?_
                        refine TC.region ?_
                        refine TO.s rfl rfl rfl (StepS.ldB rfl (Ent.at 5 rfl) kscalB_50_true rfl) ?_
                        refine TO.s rfl rfl rfl (StepS.fld rfl kfieldB_106_1_1_true) ?_
                        refine TO.s rfl rfl rfl (StepS.ldB rfl (Ent.at 1 rfl) kscalB_3_true rfl) ?_
                        obtain ⟨x105, hx106, hj102⟩ := bind_some hj102
                        refine TO.s rfl rfl rfl (StepS.idxRR rfl rfl (SS.rr (Ent.at 6 rfl)) ksliceB_50_22_1_true hx106) ?_
                        refine TO.s rfl rfl rfl (StepS.ldRR rfl (SS.rr (Ent.at 6 rfl)) kscalB_22_true hx106) ?_
                        refine TO.s rfl rfl rfl (StepS.move rfl) ?_
                        obtain ⟨r108, hc109, hj102⟩ := bind_some hj102
                        refine TO.q rfl rfl rfl (StepQ.call kcallB_66_true rfl rfl (fun _ st => C66 (RR.row (SS.rr (Ent.at 6 rfl)) hx106) hc109 st)) ?_
                        refine TO.s rfl rfl rfl (StepS.not rfl) ?_
                        refine TO.code ?_
                        refine TC.cond rfl (fun hc110 => ?_) (fun hc110 => ?_)
                        · replace hj102 := cond_t hc110 hj102
                          obtain ⟨y112, hj114, hj102⟩ := bind_some hj102
                          first | refine TC.cutM (fun a w => ∃ hs113 : List Value, Mid 235 B [(0, I a0), (3, .pointer (some ⟨b4, 0, none⟩)), (4, .pointer (some ⟨b5, 0, none⟩)), (5, .pointer (some ⟨b6, 0, none⟩)), (6, .pointer (some ⟨b12, 0, none⟩)), (7, .pointer (some ⟨b19, 0, none⟩)), (8, .func (.func 71) #[] #[.pointer (some ⟨b12, 0, none⟩), .pointer (some ⟨b4, 0, none⟩), .pointer (some ⟨b19, 0, none⟩)]), (10, .pointer (some ⟨b50, 0, none⟩)), (11, I 0), (27, h1), (28, I (a1.length : Int)), (29, I x28), (122, v87), (123, I (y85.length : Int)), (124, I x90)] (OwnS 3 1 v87 (y85.map cI) :: Bx b50 106 [I x48.1, I x48.2.1, I x48.2.2.1, I x48.2.2.2] :: OwnS 28 1 v21 (y23.map cI) :: Bx b19 50 [v16] :: SS 22 3 1 cI v16 hs25 (y24) :: Bx b12 50 [v9] :: SS 22 3 1 cI v9 hs113 (y112) :: Bx b6 75 [v21, .slice none 0 0, .slice none 0 0] :: Bx b5 75 [.slice none 0 0, .slice none 0 0, .slice none 0 0] :: Bx b4 23 [h1] :: L) a w) ?_ ?_ | refine TC.cutX (fun a w => ∃ hs113 : List Value, Mid 235 B [(0, I a0), (3, .pointer (some ⟨b4, 0, none⟩)), (4, .pointer (some ⟨b5, 0, none⟩)), (5, .pointer (some ⟨b6, 0, none⟩)), (6, .pointer (some ⟨b12, 0, none⟩)), (7, .pointer (some ⟨b19, 0, none⟩)), (8, .func (.func 71) #[] #[.pointer (some ⟨b12, 0, none⟩), .pointer (some ⟨b4, 0, none⟩), .pointer (some ⟨b19, 0, none⟩)]), (10, .pointer (some ⟨b50, 0, none⟩)), (11, I 0), (27, h1), (28, I (a1.length : Int)), (29, I x28), (122, v87), (123, I (y85.length : Int)), (124, I x90)] (OwnS 3 1 v87 (y85.map cI) :: Bx b50 106 [I x48.1, I x48.2.1, I x48.2.2.1, I x48.2.2.2] :: OwnS 28 1 v21 (y23.map cI) :: Bx b19 50 [v16] :: SS 22 3 1 cI v16 hs25 (y24) :: Bx b12 50 [v9] :: SS 22 3 1 cI v9 hs113 (y112) :: Bx b6 75 [v21, .slice none 0 0, .slice none 0 0] :: Bx b5 75 [.slice none 0 0, .slice none 0 0, .slice none 0 0] :: Bx b4 23 [h1] :: L) a w) ?_ ?_
                          · obtain ⟨xq111_6_1, hxq111_6_2, hj114⟩ := bind_some hj114
                            obtain ⟨yq111_10_2, hkq111_10_3, hj114⟩ := bind_some hj114
                            obtain ⟨xq111_11_1, hxq111_11_2, hj114⟩ := bind_some hj114
                            refine TC.region_any (OwnS 3 1 v87 (y85.map cI) :: Bx b50 106 [I x48.1, I x48.2.1, I x48.2.2.1, I x48.2.2.2] :: OwnS 28 1 v21 (y23.map cI) :: Bx b19 50 [v16] :: SS 22 3 1 cI v16 hs25 (y24) :: Bx b12 50 [v9] :: Bx b6 75 [v21, .slice none 0 0, .slice none 0 0] :: Bx b5 75 [.slice none 0 0, .slice none 0 0, .slice none 0 0] :: Bx b4 23 [h1] :: L) 12 13 kfollows_mixedOrders_true rfl ?_
                            refine TA.take 0 rfl rfl rfl rfl (StepS.ldB rfl (Ent.at 5 rfl) kscalB_50_true rfl) (by kernel_rfl) (by kernel_rfl) (by kernel_rfl) (by kernel_rfl) (by kernel_rfl) (fun _ s => Sat.by [9, 9, 9, 8, 8, 8, 8, 8, 8] 9 1 (by kernel_rfl) s) ?_
                            refine TA.takeW 1 rfl rfl rfl rfl (StepS.fld rfl kfieldB_106_1_1_true) (by kernel_rfl) (by kernel_rfl) (by kernel_rfl) rfl (.inr (fun _ s => Sat.by [9, 9, 9, 8, 8, 8, 8, 8, 8] 9 1 (by kernel_rfl) s)) ?_
                            refine TA.take 2 rfl rfl rfl rfl (StepS.ldB rfl (Ent.at 1 rfl) kscalB_3_true rfl) (by kernel_rfl) (by kernel_rfl) (by kernel_rfl) (by kernel_rfl) (by kernel_rfl) (fun _ s => Sat.by [9, 9, 9, 8, 8, 8, 8, 8, 8] 9 1 (by kernel_rfl) s) ?_
                            refine TA.take 3 rfl rfl rfl rfl (StepS.ldB rfl (Ent.at 5 rfl) kscalB_50_true rfl) (by kernel_rfl) (by kernel_rfl) (by kernel_rfl) (by kernel_rfl) (by kernel_rfl) (fun _ s => Sat.by [9, 9, 9, 8, 8, 8, 8, 8, 8] 9 1 (by kernel_rfl) s) ?_
                            refine TA.takeW 4 rfl rfl rfl rfl (StepS.fld rfl kfieldB_106_1_1_true) (by kernel_rfl) (by kernel_rfl) (by kernel_rfl) rfl (.inr (fun _ s => Sat.by [9, 9, 9, 8, 8, 8, 8, 8, 8] 9 1 (by kernel_rfl) s)) ?_
                            refine TA.take 5 rfl rfl rfl rfl (StepS.ldB rfl (Ent.at 1 rfl) kscalB_3_true rfl) (by kernel_rfl) (by kernel_rfl) (by kernel_rfl) (by kernel_rfl) (by kernel_rfl) (fun _ s => Sat.by [9, 9, 9, 8, 8, 8, 8, 8, 8] 9 1 (by kernel_rfl) s) ?_
                            refine TA.takeW 8 rfl rfl rfl rfl (StepS.move rfl) (by kernel_rfl) (by kernel_rfl) (by kernel_rfl) rfl (.inr (fun _ s => Sat.by [9, 9, 9, 8, 8, 8, 8, 8, 8] 9 1 (by kernel_rfl) s)) ?_
                            refine TA.all2 (i := 6) (j := 9) (by kernel_rfl) ?_ ?_
                            · refine TB.of rfl ?_
                              refine TO.s rfl rfl rfl (StepS.idxRR rfl rfl (SS.rr (Ent.at 6 rfl)) ksliceB_50_22_1_true hxq111_6_2) ?_
                              refine TA.back (.inr (fun _ s => Sat.by [9, 9, 9, 8, 8, 8, 8, 8, 8] 9 1 (by kernel_rfl) s)) ?_
                              refine TA.asL (L' := (OwnS 3 1 v87 (y85.map cI) :: Bx b50 106 [I x48.1, I x48.2.1, I x48.2.2.1, I x48.2.2.2] :: OwnS 28 1 v21 (y23.map cI) :: Bx b19 50 [v16] :: SS 22 3 1 cI v16 hs25 (y24) :: Bx b12 50 [v9] :: SS 22 3 1 cI v9 hs89 (y88) :: Bx b6 75 [v21, .slice none 0 0, .slice none 0 0] :: Bx b5 75 [.slice none 0 0, .slice none 0 0, .slice none 0 0] :: Bx b4 23 [h1] :: L)) (listed' := #[true, true, true, true, true, true, true, false, true, false, false, false, false]) (by kernel_rfl) (by kernel_rfl) ?_
                              refine TA.all2 (i := 7) (j := 9) (by kernel_rfl) ?_ ?_
                              · refine TB.of rfl ?_
                                refine TO.s rfl rfl rfl (StepS.ldRR rfl (SS.rr (Ent.at 6 rfl)) kscalB_22_true hxq111_6_2) ?_
                                refine TA.back (.inr (fun _ s => Sat.by [9, 9, 9, 8, 8, 8, 8, 8, 8] 9 1 (by kernel_rfl) s)) ?_
                                refine TA.asL (L' := (OwnS 3 1 v87 (y85.map cI) :: Bx b50 106 [I x48.1, I x48.2.1, I x48.2.2.1, I x48.2.2.2] :: OwnS 28 1 v21 (y23.map cI) :: Bx b19 50 [v16] :: SS 22 3 1 cI v16 hs25 (y24) :: Bx b12 50 [v9] :: SS 22 3 1 cI v9 hs89 (y88) :: Bx b6 75 [v21, .slice none 0 0, .slice none 0 0] :: Bx b5 75 [.slice none 0 0, .slice none 0 0, .slice none 0 0] :: Bx b4 23 [h1] :: L)) (listed' := #[true, true, true, true, true, true, true, true, true, false, false, false, false]) (by kernel_rfl) (by kernel_rfl) ?_
                                refine TA.all1 (i := 9) (by kernel_rfl) ?_
                                refine TB.of rfl ?_
                                refine TO.litS (f := cI) ([x103] : List Int) kelemB_22_3_1_8_true kinfo_3_bind_zero_some_I_0 rfl rfl (fun _ => rfl) rfl rfl (by kernel_rfl) rfl fun vq111_9_1 => ?_
                                refine TA.back (.inr (fun _ s => Sat.by [10, 10, 10, 9, 9, 9, 9, 9, 9] 9 2 (by kernel_rfl) s)) ?_
                                refine TA.asL (L' := (OwnS 3 1 vq111_9_1 (([x103] : List Int).map cI) :: OwnS 3 1 v87 (y85.map cI) :: Bx b50 106 [I x48.1, I x48.2.1, I x48.2.2.1, I x48.2.2.2] :: OwnS 28 1 v21 (y23.map cI) :: Bx b19 50 [v16] :: SS 22 3 1 cI v16 hs25 (y24) :: Bx b12 50 [v9] :: SS 22 3 1 cI v9 hs89 (y88) :: Bx b6 75 [v21, .slice none 0 0, .slice none 0 0] :: Bx b5 75 [.slice none 0 0, .slice none 0 0, .slice none 0 0] :: Bx b4 23 [h1] :: L)) (listed' := #[true, true, true, true, true, true, true, true, true, true, false, false, false]) (by kernel_rfl) (by kernel_rfl) ?_
                                refine TA.all1 (i := 10) (by kernel_rfl) ?_
                                refine TB.of rfl ?_
                                refine TO.ghost (fun _ s => Sat.front 7 rfl s) ?_
                                refine TO.ghost (fun _ s => Sat.openRow hxq111_6_2 s) ?_
                                refine TO.app (k := 0) (f := cI) kelemB_22_3_1_8_true (by decide) rfl rfl rfl (OwnS.rd (Ent.at 2 rfl)) hkq111_10_3 (fun x c hc => by simp [Value.oneCell'] at hc ⊢; first | (obtain rfl := hc; rfl) | (rcases hc with rfl <;> rfl)) rfl rfl fun vq111_10_4 => ?_
                                refine TA.back (.inr (fun _ s => Sat.by [11, 11, 11, 11, 11, 11, 11, 11, 11] 9 3 (by kernel_rfl) s)) ?_
                                refine TA.asL (L' := (OwnS 3 1 vq111_10_4 (yq111_10_2.map cI) :: SSh 22 3 1 cI v9 hs89 (y88) x48.2.1.toNat :: OwnS 3 1 vq111_9_1 (([x103] : List Int).map cI) :: OwnS 3 1 v87 (y85.map cI) :: Bx b50 106 [I x48.1, I x48.2.1, I x48.2.2.1, I x48.2.2.2] :: OwnS 28 1 v21 (y23.map cI) :: Bx b19 50 [v16] :: SS 22 3 1 cI v16 hs25 (y24) :: Bx b12 50 [v9] :: Bx b6 75 [v21, .slice none 0 0, .slice none 0 0] :: Bx b5 75 [.slice none 0 0, .slice none 0 0, .slice none 0 0] :: Bx b4 23 [h1] :: L)) (listed' := #[true, true, true, true, true, true, true, true, true, true, true, false, false]) (by kernel_rfl) (by kernel_rfl) ?_
                                refine TA.all1 (i := 11) (by kernel_rfl) ?_
                                refine TB.of rfl ?_
                                refine TO.s rfl rfl rfl (StepS.idxRH rfl rfl (Ent.at 1 rfl) ksliceB_50_22_1_true hxq111_11_2) ?_
                                refine TA.back (.inr (fun _ s => Sat.by [11, 11, 11, 11, 11, 11, 11, 11, 11] 9 3 (by kernel_rfl) s)) ?_
                                refine TA.asL (L' := (OwnS 3 1 vq111_10_4 (yq111_10_2.map cI) :: SSh 22 3 1 cI v9 hs89 (y88) x48.2.1.toNat :: OwnS 3 1 vq111_9_1 (([x103] : List Int).map cI) :: OwnS 3 1 v87 (y85.map cI) :: Bx b50 106 [I x48.1, I x48.2.1, I x48.2.2.1, I x48.2.2.2] :: OwnS 28 1 v21 (y23.map cI) :: Bx b19 50 [v16] :: SS 22 3 1 cI v16 hs25 (y24) :: Bx b12 50 [v9] :: Bx b6 75 [v21, .slice none 0 0, .slice none 0 0] :: Bx b5 75 [.slice none 0 0, .slice none 0 0, .slice none 0 0] :: Bx b4 23 [h1] :: L)) (listed' := #[true, true, true, true, true, true, true, true, true, true, true, true, false]) (by kernel_rfl) (by kernel_rfl) ?_
                                refine TA.all1 (i := 12) (by kernel_rfl) ?_
                                refine TB.of rfl ?_
                                refine TO.ghost (fun _ s => Sat.front 1 rfl s) ?_
                                refine TO.stRowH (xs := yq111_10_2) rfl rfl hxq111_11_2 ksizeB_22_1_true ?_
                                refine TA.back (.inl (by kernel_rfl)) ?_
                                refine TA.asL (L' := (SS 22 3 1 cI v9 (hs89.set x48.2.1.toNat vq111_10_4) (y88.set x48.2.1.toNat yq111_10_2) :: OwnS 3 1 vq111_9_1 (([x103] : List Int).map cI) :: OwnS 3 1 v87 (y85.map cI) :: Bx b50 106 [I x48.1, I x48.2.1, I x48.2.2.1, I x48.2.2.2] :: OwnS 28 1 v21 (y23.map cI) :: Bx b19 50 [v16] :: SS 22 3 1 cI v16 hs25 (y24) :: Bx b12 50 [v9] :: Bx b6 75 [v21, .slice none 0 0, .slice none 0 0] :: Bx b5 75 [.slice none 0 0, .slice none 0 0, .slice none 0 0] :: Bx b4 23 [h1] :: L)) (listed' := #[true, true, true, true, true, true, true, true, true, true, true, true, true]) (by kernel_rfl) (by kernel_rfl) ?_
                                cases hj114
                                refine TA.nil (by kernel_rfl) fun a w e s => ?_
                                exact ⟨(hs89.set x48.2.1.toNat vq111_10_4), e.sub (lk_of_allIn ⟨rfl, rfl, rfl, rfl, rfl, rfl, rfl, rfl, rfl, rfl, rfl, rfl, rfl, rfl, rfl, trivial⟩), s.mono fun _ s => (by exact Sat.by [10, 10, 10, 3, 10, 10, 10, 10, 10, 10] 10 1 (by kernel_rfl) s)⟩
                              · refine TB.of rfl ?_
                                refine TO.litS (f := cI) ([x103] : List Int) kelemB_22_3_1_8_true kinfo_3_bind_zero_some_I_0 rfl rfl (fun _ => rfl) rfl rfl (by kernel_rfl) rfl fun vq111_9_1 => ?_
                                refine TA.back (.inr (fun _ s => Sat.by [10, 10, 10, 9, 9, 9, 9, 9, 9] 9 2 (by kernel_rfl) s)) ?_
                                refine TA.asL (L' := (OwnS 3 1 vq111_9_1 (([x103] : List Int).map cI) :: OwnS 3 1 v87 (y85.map cI) :: Bx b50 106 [I x48.1, I x48.2.1, I x48.2.2.1, I x48.2.2.2] :: OwnS 28 1 v21 (y23.map cI) :: Bx b19 50 [v16] :: SS 22 3 1 cI v16 hs25 (y24) :: Bx b12 50 [v9] :: SS 22 3 1 cI v9 hs89 (y88) :: Bx b6 75 [v21, .slice none 0 0, .slice none 0 0] :: Bx b5 75 [.slice none 0 0, .slice none 0 0, .slice none 0 0] :: Bx b4 23 [h1] :: L)) (listed' := #[true, true, true, true, true, true, true, false, true, true, false, false, false]) (by kernel_rfl) (by kernel_rfl) ?_
                                refine TA.all1 (i := 7) (by kernel_rfl) ?_
                                refine TB.of rfl ?_
                                refine TO.s rfl rfl rfl (StepS.ldRR rfl (SS.rr (Ent.at 7 rfl)) kscalB_22_true hxq111_6_2) ?_
                                refine TA.back (.inr (fun _ s => Sat.by [10, 10, 10, 9, 9, 9, 9, 9, 9] 9 2 (by kernel_rfl) s)) ?_
                                refine TA.asL (L' := (OwnS 3 1 vq111_9_1 (([x103] : List Int).map cI) :: OwnS 3 1 v87 (y85.map cI) :: Bx b50 106 [I x48.1, I x48.2.1, I x48.2.2.1, I x48.2.2.2] :: OwnS 28 1 v21 (y23.map cI) :: Bx b19 50 [v16] :: SS 22 3 1 cI v16 hs25 (y24) :: Bx b12 50 [v9] :: SS 22 3 1 cI v9 hs89 (y88) :: Bx b6 75 [v21, .slice none 0 0, .slice none 0 0] :: Bx b5 75 [.slice none 0 0, .slice none 0 0, .slice none 0 0] :: Bx b4 23 [h1] :: L)) (listed' := #[true, true, true, true, true, true, true, true, true, true, false, false, false]) (by kernel_rfl) (by kernel_rfl) ?_
                                refine TA.all1 (i := 10) (by kernel_rfl) ?_
                                refine TB.of rfl ?_
                                refine TO.ghost (fun _ s => Sat.front 7 rfl s) ?_
                                refine TO.ghost (fun _ s => Sat.openRow hxq111_6_2 s) ?_
                                refine TO.app (k := 0) (f := cI) kelemB_22_3_1_8_true (by decide) rfl rfl rfl (OwnS.rd (Ent.at 2 rfl)) hkq111_10_3 (fun x c hc => by simp [Value.oneCell'] at hc ⊢; first | (obtain rfl := hc; rfl) | (rcases hc with rfl <;> rfl)) rfl rfl fun vq111_10_4 => ?_
                                refine TA.back (.inr (fun _ s => Sat.by [11, 11, 11, 11, 11, 11, 11, 11, 11] 9 3 (by kernel_rfl) s)) ?_
                                refine TA.asL (L' := (OwnS 3 1 vq111_10_4 (yq111_10_2.map cI) :: SSh 22 3 1 cI v9 hs89 (y88) x48.2.1.toNat :: OwnS 3 1 vq111_9_1 (([x103] : List Int).map cI) :: OwnS 3 1 v87 (y85.map cI) :: Bx b50 106 [I x48.1, I x48.2.1, I x48.2.2.1, I x48.2.2.2] :: OwnS 28 1 v21 (y23.map cI) :: Bx b19 50 [v16] :: SS 22 3 1 cI v16 hs25 (y24) :: Bx b12 50 [v9] :: Bx b6 75 [v21, .slice none 0 0, .slice none 0 0] :: Bx b5 75 [.slice none 0 0, .slice none 0 0, .slice none 0 0] :: Bx b4 23 [h1] :: L)) (listed' := #[true, true, true, true, true, true, true, true, true, true, true, false, false]) (by kernel_rfl) (by kernel_rfl) ?_
                                refine TA.all1 (i := 11) (by kernel_rfl) ?_
                                refine TB.of rfl ?_
                                refine TO.s rfl rfl rfl (StepS.idxRH rfl rfl (Ent.at 1 rfl) ksliceB_50_22_1_true hxq111_11_2) ?_
                                refine TA.back (.inr (fun _ s => Sat.by [11, 11, 11, 11, 11, 11, 11, 11, 11] 9 3 (by kernel_rfl) s)) ?_
                                refine TA.asL (L' := (OwnS 3 1 vq111_10_4 (yq111_10_2.map cI) :: SSh 22 3 1 cI v9 hs89 (y88) x48.2.1.toNat :: OwnS 3 1 vq111_9_1 (([x103] : List Int).map cI) :: OwnS 3 1 v87 (y85.map cI) :: Bx b50 106 [I x48.1, I x48.2.1, I x48.2.2.1, I x48.2.2.2] :: OwnS 28 1 v21 (y23.map cI) :: Bx b19 50 [v16] :: SS 22 3 1 cI v16 hs25 (y24) :: Bx b12 50 [v9] :: Bx b6 75 [v21, .slice none 0 0, .slice none 0 0] :: Bx b5 75 [.slice none 0 0, .slice none 0 0, .slice none 0 0] :: Bx b4 23 [h1] :: L)) (listed' := #[true, true, true, true, true, true, true, true, true, true, true, true, false]) (by kernel_rfl) (by kernel_rfl) ?_
                                refine TA.all1 (i := 12) (by kernel_rfl) ?_
                                refine TB.of rfl ?_
                                refine TO.ghost (fun _ s => Sat.front 1 rfl s) ?_
                                refine TO.stRowH (xs := yq111_10_2) rfl rfl hxq111_11_2 ksizeB_22_1_true ?_
                                refine TA.back (.inl (by kernel_rfl)) ?_
                                refine TA.asL (L' := (SS 22 3 1 cI v9 (hs89.set x48.2.1.toNat vq111_10_4) (y88.set x48.2.1.toNat yq111_10_2) :: OwnS 3 1 vq111_9_1 (([x103] : List Int).map cI) :: OwnS 3 1 v87 (y85.map cI) :: Bx b50 106 [I x48.1, I x48.2.1, I x48.2.2.1, I x48.2.2.2] :: OwnS 28 1 v21 (y23.map cI) :: Bx b19 50 [v16] :: SS 22 3 1 cI v16 hs25 (y24) :: Bx b12 50 [v9] :: Bx b6 75 [v21, .slice none 0 0, .slice none 0 0] :: Bx b5 75 [.slice none 0 0, .slice none 0 0, .slice none 0 0] :: Bx b4 23 [h1] :: L)) (listed' := #[true, true, true, true, true, true, true, true, true, true, true, true, true]) (by kernel_rfl) (by kernel_rfl) ?_
                                cases hj114
                                refine TA.nil (by kernel_rfl) fun a w e s => ?_
                                exact ⟨(hs89.set x48.2.1.toNat vq111_10_4), e.sub (lk_of_allIn ⟨rfl, rfl, rfl, rfl, rfl, rfl, rfl, rfl, rfl, rfl, rfl, rfl, rfl, rfl, rfl, trivial⟩), s.mono fun _ s => (by exact Sat.by [10, 10, 10, 3, 10, 10, 10, 10, 10, 10] 10 1 (by kernel_rfl) s)⟩
                            · refine TB.of rfl ?_
                              refine TO.litS (f := cI) ([x103] : List Int) kelemB_22_3_1_8_true kinfo_3_bind_zero_some_I_0 rfl rfl (fun _ => rfl) rfl rfl (by kernel_rfl) rfl fun vq111_9_1 => ?_
                              refine TA.back (.inr (fun _ s => Sat.by [10, 10, 10, 9, 9, 9, 9, 9, 9] 9 2 (by kernel_rfl) s)) ?_
                              refine TA.asL (L' := (OwnS 3 1 vq111_9_1 (([x103] : List Int).map cI) :: OwnS 3 1 v87 (y85.map cI) :: Bx b50 106 [I x48.1, I x48.2.1, I x48.2.2.1, I x48.2.2.2] :: OwnS 28 1 v21 (y23.map cI) :: Bx b19 50 [v16] :: SS 22 3 1 cI v16 hs25 (y24) :: Bx b12 50 [v9] :: SS 22 3 1 cI v9 hs89 (y88) :: Bx b6 75 [v21, .slice none 0 0, .slice none 0 0] :: Bx b5 75 [.slice none 0 0, .slice none 0 0, .slice none 0 0] :: Bx b4 23 [h1] :: L)) (listed' := #[true, true, true, true, true, true, false, false, true, true, false, false, false]) (by kernel_rfl) (by kernel_rfl) ?_
                              refine TA.all1 (i := 6) (by kernel_rfl) ?_
                              refine TB.of rfl ?_
                              refine TO.s rfl rfl rfl (StepS.idxRR rfl rfl (SS.rr (Ent.at 7 rfl)) ksliceB_50_22_1_true hxq111_6_2) ?_
                              refine TA.back (.inr (fun _ s => Sat.by [10, 10, 10, 9, 9, 9, 9, 9, 9] 9 2 (by kernel_rfl) s)) ?_
                              refine TA.asL (L' := (OwnS 3 1 vq111_9_1 (([x103] : List Int).map cI) :: OwnS 3 1 v87 (y85.map cI) :: Bx b50 106 [I x48.1, I x48.2.1, I x48.2.2.1, I x48.2.2.2] :: OwnS 28 1 v21 (y23.map cI) :: Bx b19 50 [v16] :: SS 22 3 1 cI v16 hs25 (y24) :: Bx b12 50 [v9] :: SS 22 3 1 cI v9 hs89 (y88) :: Bx b6 75 [v21, .slice none 0 0, .slice none 0 0] :: Bx b5 75 [.slice none 0 0, .slice none 0 0, .slice none 0 0] :: Bx b4 23 [h1] :: L)) (listed' := #[true, true, true, true, true, true, true, false, true, true, false, false, false]) (by kernel_rfl) (by kernel_rfl) ?_
                              refine TA.all1 (i := 7) (by kernel_rfl) ?_
                              refine TB.of rfl ?_
                              refine TO.s rfl rfl rfl (StepS.ldRR rfl (SS.rr (Ent.at 7 rfl)) kscalB_22_true hxq111_6_2) ?_
                              refine TA.back (.inr (fun _ s => Sat.by [10, 10, 10, 9, 9, 9, 9, 9, 9] 9 2 (by kernel_rfl) s)) ?_
                              refine TA.asL (L' := (OwnS 3 1 vq111_9_1 (([x103] : List Int).map cI) :: OwnS 3 1 v87 (y85.map cI) :: Bx b50 106 [I x48.1, I x48.2.1, I x48.2.2.1, I x48.2.2.2] :: OwnS 28 1 v21 (y23.map cI) :: Bx b19 50 [v16] :: SS 22 3 1 cI v16 hs25 (y24) :: Bx b12 50 [v9] :: SS 22 3 1 cI v9 hs89 (y88) :: Bx b6 75 [v21, .slice none 0 0, .slice none 0 0] :: Bx b5 75 [.slice none 0 0, .slice none 0 0, .slice none 0 0] :: Bx b4 23 [h1] :: L)) (listed' := #[true, true, true, true, true, true, true, true, true, true, false, false, false]) (by kernel_rfl) (by kernel_rfl) ?_
                              refine TA.all1 (i := 10) (by kernel_rfl) ?_
                              refine TB.of rfl ?_
                              refine TO.ghost (fun _ s => Sat.front 7 rfl s) ?_
                              refine TO.ghost (fun _ s => Sat.openRow hxq111_6_2 s) ?_
                              refine TO.app (k := 0) (f := cI) kelemB_22_3_1_8_true (by decide) rfl rfl rfl (OwnS.rd (Ent.at 2 rfl)) hkq111_10_3 (fun x c hc => by simp [Value.oneCell'] at hc ⊢; first | (obtain rfl := hc; rfl) | (rcases hc with rfl <;> rfl)) rfl rfl fun vq111_10_4 => ?_
                              refine TA.back (.inr (fun _ s => Sat.by [11, 11, 11, 11, 11, 11, 11, 11, 11] 9 3 (by kernel_rfl) s)) ?_
                              refine TA.asL (L' := (OwnS 3 1 vq111_10_4 (yq111_10_2.map cI) :: SSh 22 3 1 cI v9 hs89 (y88) x48.2.1.toNat :: OwnS 3 1 vq111_9_1 (([x103] : List Int).map cI) :: OwnS 3 1 v87 (y85.map cI) :: Bx b50 106 [I x48.1, I x48.2.1, I x48.2.2.1, I x48.2.2.2] :: OwnS 28 1 v21 (y23.map cI) :: Bx b19 50 [v16] :: SS 22 3 1 cI v16 hs25 (y24) :: Bx b12 50 [v9] :: Bx b6 75 [v21, .slice none 0 0, .slice none 0 0] :: Bx b5 75 [.slice none 0 0, .slice none 0 0, .slice none 0 0] :: Bx b4 23 [h1] :: L)) (listed' := #[true, true, true, true, true, true, true, true, true, true, true, false, false]) (by kernel_rfl) (by kernel_rfl) ?_
                              refine TA.all1 (i := 11) (by kernel_rfl) ?_
                              refine TB.of rfl ?_
                              refine TO.s rfl rfl rfl (StepS.idxRH rfl rfl (Ent.at 1 rfl) ksliceB_50_22_1_true hxq111_11_2) ?_
                              refine TA.back (.inr (fun _ s => Sat.by [11, 11, 11, 11, 11, 11, 11, 11, 11] 9 3 (by kernel_rfl) s)) ?_
                              refine TA.asL (L' := (OwnS 3 1 vq111_10_4 (yq111_10_2.map cI) :: SSh 22 3 1 cI v9 hs89 (y88) x48.2.1.toNat :: OwnS 3 1 vq111_9_1 (([x103] : List Int).map cI) :: OwnS 3 1 v87 (y85.map cI) :: Bx b50 106 [I x48.1, I x48.2.1, I x48.2.2.1, I x48.2.2.2] :: OwnS 28 1 v21 (y23.map cI) :: Bx b19 50 [v16] :: SS 22 3 1 cI v16 hs25 (y24) :: Bx b12 50 [v9] :: Bx b6 75 [v21, .slice none 0 0, .slice none 0 0] :: Bx b5 75 [.slice none 0 0, .slice none 0 0, .slice none 0 0] :: Bx b4 23 [h1] :: L)) (listed' := #[true, true, true, true, true, true, true, true, true, true, true, true, false]) (by kernel_rfl) (by kernel_rfl) ?_
                              refine TA.all1 (i := 12) (by kernel_rfl) ?_
                              refine TB.of rfl ?_
                              refine TO.ghost (fun _ s => Sat.front 1 rfl s) ?_
                              refine TO.stRowH (xs := yq111_10_2) rfl rfl hxq111_11_2 ksizeB_22_1_true ?_
                              refine TA.back (.inl (by kernel_rfl)) ?_
                              refine TA.asL (L' := (SS 22 3 1 cI v9 (hs89.set x48.2.1.toNat vq111_10_4) (y88.set x48.2.1.toNat yq111_10_2) :: OwnS 3 1 vq111_9_1 (([x103] : List Int).map cI) :: OwnS 3 1 v87 (y85.map cI) :: Bx b50 106 [I x48.1, I x48.2.1, I x48.2.2.1, I x48.2.2.2] :: OwnS 28 1 v21 (y23.map cI) :: Bx b19 50 [v16] :: SS 22 3 1 cI v16 hs25 (y24) :: Bx b12 50 [v9] :: Bx b6 75 [v21, .slice none 0 0, .slice none 0 0] :: Bx b5 75 [.slice none 0 0, .slice none 0 0, .slice none 0 0] :: Bx b4 23 [h1] :: L)) (listed' := #[true, true, true, true, true, true, true, true, true, true, true, true, true]) (by kernel_rfl) (by kernel_rfl) ?_
                              cases hj114
                              refine TA.nil (by kernel_rfl) fun a w e s => ?_
                              exact ⟨(hs89.set x48.2.1.toNat vq111_10_4), e.sub (lk_of_allIn ⟨rfl, rfl, rfl, rfl, rfl, rfl, rfl, rfl, rfl, rfl, rfl, rfl, rfl, rfl, rfl, trivial⟩), s.mono fun _ s => (by exact Sat.by [10, 10, 10, 3, 10, 10, 10, 10, 10, 10] 10 1 (by kernel_rfl) s)⟩
                          · intro a w ⟨hs113, he, hs⟩
                            cases hj102
                            have e := he; have s := hs
                            exact ⟨hs113, e.sub (lk_of_allIn ⟨rfl, rfl, rfl, rfl, rfl, rfl, rfl, rfl, rfl, rfl, rfl, rfl, rfl, rfl, rfl, trivial⟩), s⟩
                        · replace hj102 := cond_f hc110 hj102
                          cases hj102
                          refine TC.skip fun a w e s => ?_
                          exact ⟨hs89, e.sub (lk_of_allIn ⟨rfl, rfl, rfl, rfl, rfl, rfl, rfl, rfl, rfl, rfl, rfl, rfl, rfl, rfl, rfl, trivial⟩), s⟩
                      · intro a w ⟨hs101, he, hs⟩
                        refine TC.use ?_ he hs
                        refine TC.region ?_
                        refine TO.s rfl rfl rfl (StepS.ari rfl rfl rfl) ?_
                        refine TO.s rfl rfl rfl (StepS.move rfl) ?_
                        cases hb98
                        refine TO.nil fun a w e s => ?_
                        exact ⟨hs101, e.sub (lk_of_allIn ⟨rfl, rfl, rfl, rfl, rfl, rfl, rfl, rfl, rfl, rfl, rfl, rfl, rfl, rfl, rfl, trivial⟩), s⟩
                    · replace hb98 := cond_f hc99 hb98
                      cases hb98
                      refine TC.exit rfl fun a w e s => ?_
                      exact ⟨hs89, e.sub (lk_of_allIn ⟨rfl, rfl, rfl, rfl, rfl, rfl, rfl, rfl, rfl, rfl, rfl, trivial⟩), s⟩
                  · exact fun a w e s => ⟨hs27, e.sub (lk_of_allIn ⟨rfl, rfl, rfl, rfl, rfl, rfl, rfl, rfl, rfl, rfl, rfl, rfl, rfl, rfl, rfl, trivial⟩), s⟩
                  · rintro y94 rfl a w ⟨hs95, he, hs⟩
                    dsimp only [Ctl.on] at hj57
                    cases hj57
                    have e := he; have s := hs
                    exact ⟨hs25, hs95, e.sub (lk_of_allIn ⟨rfl, rfl, rfl, rfl, rfl, rfl, rfl, rfl, rfl, rfl, rfl, trivial⟩), s.mono fun _ => Sat.dropN 1⟩
                  · rintro r rfl
                    exact fun a w h => h.elim
                · replace hj57 := cond_f hc79 hj57
                  refine TC.k ?_
                  refine TC.k ?_
                  refine TC.region ?_
                  refine TO.s rfl rfl rfl (StepS.fld rfl kfieldB_106_0_0_true) ?_
                  refine TO.s rfl rfl rfl (StepS.ldB rfl (Ent.at 0 rfl) kscalB_3_true rfl) ?_
                  refine TO.s rfl rfl rfl (StepS.cmp rfl rfl rfl) ?_
                  refine TO.code ?_
                  obtain ⟨y115, hj117, hj57⟩ := bind_some hj57
                  first | refine TC.cutM (fun a w => ∃ hs116 : List Value, Mid 235 B [(0, I a0), (3, .pointer (some ⟨b4, 0, none⟩)), (4, .pointer (some ⟨b5, 0, none⟩)), (5, .pointer (some ⟨b6, 0, none⟩)), (6, .pointer (some ⟨b12, 0, none⟩)), (7, .pointer (some ⟨b19, 0, none⟩)), (8, .func (.func 71) #[] #[.pointer (some ⟨b12, 0, none⟩), .pointer (some ⟨b4, 0, none⟩), .pointer (some ⟨b19, 0, none⟩)]), (9, I x28), (10, .pointer (some ⟨b50, 0, none⟩)), (11, I 0), (27, h1), (28, I (a1.length : Int)), (29, I x28)] (Bx b50 106 [I x48.1, I x48.2.1, I x48.2.2.1, I x48.2.2.2] :: OwnS 28 1 v21 (y23.map cI) :: Bx b19 50 [v16] :: SS 22 3 1 cI v16 hs116 (y115) :: Bx b12 50 [v9] :: SS 22 3 1 cI v9 hs27 (y26) :: Bx b6 75 [v21, .slice none 0 0, .slice none 0 0] :: Bx b5 75 [.slice none 0 0, .slice none 0 0, .slice none 0 0] :: Bx b4 23 [h1] :: L) a w) ?_ ?_ | refine TC.cutX (fun a w => ∃ hs116 : List Value, Mid 235 B [(0, I a0), (3, .pointer (some ⟨b4, 0, none⟩)), (4, .pointer (some ⟨b5, 0, none⟩)), (5, .pointer (some ⟨b6, 0, none⟩)), (6, .pointer (some ⟨b12, 0, none⟩)), (7, .pointer (some ⟨b19, 0, none⟩)), (8, .func (.func 71) #[] #[.pointer (some ⟨b12, 0, none⟩), .pointer (some ⟨b4, 0, none⟩), .pointer (some ⟨b19, 0, none⟩)]), (9, I x28), (10, .pointer (some ⟨b50, 0, none⟩)), (11, I 0), (27, h1), (28, I (a1.length : Int)), (29, I x28)] (Bx b50 106 [I x48.1, I x48.2.1, I x48.2.2.1, I x48.2.2.2] :: OwnS 28 1 v21 (y23.map cI) :: Bx b19 50 [v16] :: SS 22 3 1 cI v16 hs116 (y115) :: Bx b12 50 [v9] :: SS 22 3 1 cI v9 hs27 (y26) :: Bx b6 75 [v21, .slice none 0 0, .slice none 0 0] :: Bx b5 75 [.slice none 0 0, .slice none 0 0, .slice none 0 0] :: Bx b4 23 [h1] :: L) a w) ?_ ?_
                  · refine TC.cond rfl (fun hc118 => ?_) (fun hc118 => ?_)
                    · replace hj117 := cond_t hc118 hj117
                      refine TC.region_any (Bx b50 106 [I x48.1, I x48.2.1, I x48.2.2.1, I x48.2.2.2] :: OwnS 28 1 v21 (y23.map cI) :: Bx b19 50 [v16] :: SS 22 3 1 cI v16 hs25 (y24) :: Bx b12 50 [v9] :: SS 22 3 1 cI v9 hs27 (y26) :: Bx b6 75 [v21, .slice none 0 0, .slice none 0 0] :: Bx b5 75 [.slice none 0 0, .slice none 0 0, .slice none 0 0] :: Bx b4 23 [h1] :: L) 9 10 kfollows_mixedOrders_true rfl ?_
                      refine TA.take 0 rfl rfl rfl rfl (StepS.ldB rfl (Ent.at 2 rfl) kscalB_50_true rfl) (by kernel_rfl) (by kernel_rfl) (by kernel_rfl) (by kernel_rfl) (by kernel_rfl) (fun _ s => s) ?_
                      refine TA.takeW 1 rfl rfl rfl rfl (StepS.move rfl) (by kernel_rfl) (by kernel_rfl) (by kernel_rfl) rfl (.inr (fun _ s => s)) ?_
                      refine TA.takeW 2 rfl rfl rfl rfl (StepS.move rfl) (by kernel_rfl) (by kernel_rfl) (by kernel_rfl) rfl (.inr (fun _ s => s)) ?_
                      refine TA.takeW 3 rfl rfl rfl rfl (StepS.fld rfl kfieldB_106_1_1_true) (by kernel_rfl) (by kernel_rfl) (by kernel_rfl) rfl (.inr (fun _ s => s)) ?_
                      refine TA.take 4 rfl rfl rfl rfl (StepS.ldB rfl (Ent.at 0 rfl) kscalB_3_true rfl) (by kernel_rfl) (by kernel_rfl) (by kernel_rfl) (by kernel_rfl) (by kernel_rfl) (fun _ s => s) ?_
                      refine TA.takeW 5 rfl rfl rfl rfl (StepS.fld rfl kfieldB_106_3_3_true) (by kernel_rfl) (by kernel_rfl) (by kernel_rfl) rfl (.inr (fun _ s => s)) ?_
                      refine TA.take 6 rfl rfl rfl rfl (StepS.ldB rfl (Ent.at 0 rfl) kscalB_3_true rfl) (by kernel_rfl) (by kernel_rfl) (by kernel_rfl) (by kernel_rfl) (by kernel_rfl) (fun _ s => s) ?_
                      refine TA.all1 (i := 7) (by kernel_rfl) ?_
                      refine TB.of rfl ?_
                      obtain ⟨rq119_7_1, hcq119_7_2, hj117⟩ := bind_some hj117
                      refine TO.callOC kcallB_71_true rfl rfl rfl rfl (fun _ st => C71 (Ent.at 4 rfl) (SS.rr (Ent.at 5 rfl)) (Ent.at 8 rfl) e1.tl.tl.tl.tl.tl.tl.tl.tl.tl (Ent.at 2 rfl) (SS.rr (Ent.at 3 rfl)) hcq119_7_2 st) ?_
                      rintro vq119_7_3 _ ⟨_, rfl, rfl⟩
                      refine TA.back (.inr (fun _ s => Sat.by [9, 9, 9, 9, 9, 9, 9, 9, 9] 9 1 (by kernel_rfl) s)) ?_
                      refine TA.asL (L' := (OwnS 3 1 vq119_7_3 (rq119_7_1.map cI) :: Bx b50 106 [I x48.1, I x48.2.1, I x48.2.2.1, I x48.2.2.2] :: OwnS 28 1 v21 (y23.map cI) :: Bx b19 50 [v16] :: SS 22 3 1 cI v16 hs25 (y24) :: Bx b12 50 [v9] :: SS 22 3 1 cI v9 hs27 (y26) :: Bx b6 75 [v21, .slice none 0 0, .slice none 0 0] :: Bx b5 75 [.slice none 0 0, .slice none 0 0, .slice none 0 0] :: Bx b4 23 [h1] :: L)) (listed' := #[true, true, true, true, true, true, true, true, false, false]) (by kernel_rfl) (by kernel_rfl) ?_
                      obtain ⟨xq119_8_1, hxq119_8_2, hj117⟩ := bind_some hj117
                      refine TA.take 8 rfl rfl rfl rfl (StepS.idxRR rfl rfl (SS.rr (Ent.at 3 rfl)) ksliceB_50_22_1_true hxq119_8_2) (by kernel_rfl) (by kernel_rfl) (by kernel_rfl) (by kernel_rfl) (by kernel_rfl) (fun _ s => Sat.by [9, 9, 9, 9, 9, 9, 9, 9, 9] 9 1 (by kernel_rfl) s) ?_
                      refine TA.all1 (i := 9) (by kernel_rfl) ?_
                      refine TB.of rfl ?_
                      refine TO.ghost (fun _ s => Sat.front 4 rfl s) ?_
                      refine TO.stRow (xs := rq119_7_1) rfl rfl hxq119_8_2 ksizeB_22_1_true ?_
                      refine TA.back (.inl (by kernel_rfl)) ?_
                      refine TA.asL (L' := (SS 22 3 1 cI v16 (hs25.set x28.toNat vq119_7_3) (y24.set x28.toNat rq119_7_1) :: Bx b50 106 [I x48.1, I x48.2.1, I x48.2.2.1, I x48.2.2.2] :: OwnS 28 1 v21 (y23.map cI) :: Bx b19 50 [v16] :: Bx b12 50 [v9] :: SS 22 3 1 cI v9 hs27 (y26) :: Bx b6 75 [v21, .slice none 0 0, .slice none 0 0] :: Bx b5 75 [.slice none 0 0, .slice none 0 0, .slice none 0 0] :: Bx b4 23 [h1] :: L)) (listed' := #[true, true, true, true, true, true, true, true, true, true]) (by kernel_rfl) (by kernel_rfl) ?_
                      cases hj117
                      refine TA.nil (by kernel_rfl) fun a w e s => ?_
                      exact ⟨(hs25.set x28.toNat vq119_7_3), e.sub (lk_of_allIn ⟨rfl, rfl, rfl, rfl, rfl, rfl, rfl, rfl, rfl, rfl, rfl, rfl, rfl, trivial⟩), s.mono fun _ s => (by exact Sat.by [8, 8, 8, 8, 8, 5, 8, 8, 8] 9 0 (by kernel_rfl) s)⟩
                    · replace hj117 := cond_f hc118 hj117
                      cases hj117
                      refine TC.skip fun a w e s => ?_
                      exact ⟨hs25, e.sub (lk_of_allIn ⟨rfl, rfl, rfl, rfl, rfl, rfl, rfl, rfl, rfl, rfl, rfl, rfl, rfl, trivial⟩), s⟩
                  · intro a w ⟨hs116, he, hs⟩
                    refine TC.use ?_ he hs
                    obtain ⟨y121, hj123, hj57⟩ := bind_some hj57
                    first | refine TC.cutM (fun a w => ∃ hs122 : List Value, Mid 235 B [(0, I a0), (3, .pointer (some ⟨b4, 0, none⟩)), (4, .pointer (some ⟨b5, 0, none⟩)), (5, .pointer (some ⟨b6, 0, none⟩)), (6, .pointer (some ⟨b12, 0, none⟩)), (7, .pointer (some ⟨b19, 0, none⟩)), (8, .func (.func 71) #[] #[.pointer (some ⟨b12, 0, none⟩), .pointer (some ⟨b4, 0, none⟩), .pointer (some ⟨b19, 0, none⟩)]), (11, I 0), (27, h1), (28, I (a1.length : Int)), (29, I x28)] (Bx b50 106 [I x48.1, I x48.2.1, I x48.2.2.1, I x48.2.2.2] :: OwnS 28 1 v21 (y23.map cI) :: Bx b19 50 [v16] :: SS 22 3 1 cI v16 hs116 (y115) :: Bx b12 50 [v9] :: SS 22 3 1 cI v9 hs122 (y121) :: Bx b6 75 [v21, .slice none 0 0, .slice none 0 0] :: Bx b5 75 [.slice none 0 0, .slice none 0 0, .slice none 0 0] :: Bx b4 23 [h1] :: L) a w) ?_ ?_ | refine TC.cutX (fun a w => ∃ hs122 : List Value, Mid 235 B [(0, I a0), (3, .pointer (some ⟨b4, 0, none⟩)), (4, .pointer (some ⟨b5, 0, none⟩)), (5, .pointer (some ⟨b6, 0, none⟩)), (6, .pointer (some ⟨b12, 0, none⟩)), (7, .pointer (some ⟨b19, 0, none⟩)), (8, .func (.func 71) #[] #[.pointer (some ⟨b12, 0, none⟩), .pointer (some ⟨b4, 0, none⟩), .pointer (some ⟨b19, 0, none⟩)]), (11, I 0), (27, h1), (28, I (a1.length : Int)), (29, I x28)] (Bx b50 106 [I x48.1, I x48.2.1, I x48.2.2.1, I x48.2.2.2] :: OwnS 28 1 v21 (y23.map cI) :: Bx b19 50 [v16] :: SS 22 3 1 cI v16 hs116 (y115) :: Bx b12 50 [v9] :: SS 22 3 1 cI v9 hs122 (y121) :: Bx b6 75 [v21, .slice none 0 0, .slice none 0 0] :: Bx b5 75 [.slice none 0 0, .slice none 0 0, .slice none 0 0] :: Bx b4 23 [h1] :: L) a w) ?_ ?_
                    · obtain ⟨xq120_6_1, hxq120_6_2, hj123⟩ := bind_some hj123
                      obtain ⟨yq120_10_2, hkq120_10_3, hj123⟩ := bind_some hj123
                      obtain ⟨xq120_11_1, hxq120_11_2, hj123⟩ := bind_some hj123
                      refine TC.region_any (Bx b50 106 [I x48.1, I x48.2.1, I x48.2.2.1, I x48.2.2.2] :: OwnS 28 1 v21 (y23.map cI) :: Bx b19 50 [v16] :: SS 22 3 1 cI v16 hs116 (y115) :: Bx b12 50 [v9] :: Bx b6 75 [v21, .slice none 0 0, .slice none 0 0] :: Bx b5 75 [.slice none 0 0, .slice none 0 0, .slice none 0 0] :: Bx b4 23 [h1] :: L) 12 13 kfollows_mixedOrders_true rfl ?_
                      refine TA.take 0 rfl rfl rfl rfl (StepS.ldB rfl (Ent.at 4 rfl) kscalB_50_true rfl) (by kernel_rfl) (by kernel_rfl) (by kernel_rfl) (by kernel_rfl) (by kernel_rfl) (fun _ s => Sat.by [8, 8, 8, 7, 7, 7, 7, 7] 8 1 (by kernel_rfl) s) ?_
                      refine TA.takeW 1 rfl rfl rfl rfl (StepS.fld rfl kfieldB_106_1_1_true) (by kernel_rfl) (by kernel_rfl) (by kernel_rfl) rfl (.inr (fun _ s => Sat.by [8, 8, 8, 7, 7, 7, 7, 7] 8 1 (by kernel_rfl) s)) ?_
                      refine TA.take 2 rfl rfl rfl rfl (StepS.ldB rfl (Ent.at 0 rfl) kscalB_3_true rfl) (by kernel_rfl) (by kernel_rfl) (by kernel_rfl) (by kernel_rfl) (by kernel_rfl) (fun _ s => Sat.by [8, 8, 8, 7, 7, 7, 7, 7] 8 1 (by kernel_rfl) s) ?_
                      refine TA.take 3 rfl rfl rfl rfl (StepS.ldB rfl (Ent.at 4 rfl) kscalB_50_true rfl) (by kernel_rfl) (by kernel_rfl) (by kernel_rfl) (by kernel_rfl) (by kernel_rfl) (fun _ s => Sat.by [8, 8, 8, 7, 7, 7, 7, 7] 8 1 (by kernel_rfl) s) ?_
                      refine TA.takeW 4 rfl rfl rfl rfl (StepS.fld rfl kfieldB_106_1_1_true) (by kernel_rfl) (by kernel_rfl) (by kernel_rfl) rfl (.inr (fun _ s => Sat.by [8, 8, 8, 7, 7, 7, 7, 7] 8 1 (by kernel_rfl) s)) ?_
                      refine TA.take 5 rfl rfl rfl rfl (StepS.ldB rfl (Ent.at 0 rfl) kscalB_3_true rfl) (by kernel_rfl) (by kernel_rfl) (by kernel_rfl) (by kernel_rfl) (by kernel_rfl) (fun _ s => Sat.by [8, 8, 8, 7, 7, 7, 7, 7] 8 1 (by kernel_rfl) s) ?_
                      refine TA.takeW 8 rfl rfl rfl rfl (StepS.move rfl) (by kernel_rfl) (by kernel_rfl) (by kernel_rfl) rfl (.inr (fun _ s => Sat.by [8, 8, 8, 7, 7, 7, 7, 7] 8 1 (by kernel_rfl) s)) ?_
                      refine TA.all2 (i := 6) (j := 9) (by kernel_rfl) ?_ ?_
                      · refine TB.of rfl ?_
                        refine TO.s rfl rfl rfl (StepS.idxRR rfl rfl (SS.rr (Ent.at 5 rfl)) ksliceB_50_22_1_true hxq120_6_2) ?_
                        refine TA.back (.inr (fun _ s => Sat.by [8, 8, 8, 7, 7, 7, 7, 7] 8 1 (by kernel_rfl) s)) ?_
                        refine TA.asL (L' := (Bx b50 106 [I x48.1, I x48.2.1, I x48.2.2.1, I x48.2.2.2] :: OwnS 28 1 v21 (y23.map cI) :: Bx b19 50 [v16] :: SS 22 3 1 cI v16 hs116 (y115) :: Bx b12 50 [v9] :: SS 22 3 1 cI v9 hs27 (y26) :: Bx b6 75 [v21, .slice none 0 0, .slice none 0 0] :: Bx b5 75 [.slice none 0 0, .slice none 0 0, .slice none 0 0] :: Bx b4 23 [h1] :: L)) (listed' := #[true, true, true, true, true, true, true, false, true, false, false, false, false]) (by kernel_rfl) (by kernel_rfl) ?_
                        refine TA.all2 (i := 7) (j := 9) (by kernel_rfl) ?_ ?_
                        · refine TB.of rfl ?_
                          refine TO.s rfl rfl rfl (StepS.ldRR rfl (SS.rr (Ent.at 5 rfl)) kscalB_22_true hxq120_6_2) ?_
                          refine TA.back (.inr (fun _ s => Sat.by [8, 8, 8, 7, 7, 7, 7, 7] 8 1 (by kernel_rfl) s)) ?_
                          refine TA.asL (L' := (Bx b50 106 [I x48.1, I x48.2.1, I x48.2.2.1, I x48.2.2.2] :: OwnS 28 1 v21 (y23.map cI) :: Bx b19 50 [v16] :: SS 22 3 1 cI v16 hs116 (y115) :: Bx b12 50 [v9] :: SS 22 3 1 cI v9 hs27 (y26) :: Bx b6 75 [v21, .slice none 0 0, .slice none 0 0] :: Bx b5 75 [.slice none 0 0, .slice none 0 0, .slice none 0 0] :: Bx b4 23 [h1] :: L)) (listed' := #[true, true, true, true, true, true, true, true, true, false, false, false, false]) (by kernel_rfl) (by kernel_rfl) ?_
                          refine TA.all1 (i := 9) (by kernel_rfl) ?_
                          refine TB.of rfl ?_
                          refine TO.litS (f := cI) ([x28] : List Int) kelemB_22_3_1_8_true kinfo_3_bind_zero_some_I_0 rfl rfl (fun _ => rfl) rfl rfl (by kernel_rfl) rfl fun vq120_9_1 => ?_
                          refine TA.back (.inr (fun _ s => Sat.by [9, 9, 9, 8, 8, 8, 8, 8] 8 2 (by kernel_rfl) s)) ?_
                          refine TA.asL (L' := (OwnS 3 1 vq120_9_1 (([x28] : List Int).map cI) :: Bx b50 106 [I x48.1, I x48.2.1, I x48.2.2.1, I x48.2.2.2] :: OwnS 28 1 v21 (y23.map cI) :: Bx b19 50 [v16] :: SS 22 3 1 cI v16 hs116 (y115) :: Bx b12 50 [v9] :: SS 22 3 1 cI v9 hs27 (y26) :: Bx b6 75 [v21, .slice none 0 0, .slice none 0 0] :: Bx b5 75 [.slice none 0 0, .slice none 0 0, .slice none 0 0] :: Bx b4 23 [h1] :: L)) (listed' := #[true, true, true, true, true, true, true, true, true, true, false, false, false]) (by kernel_rfl) (by kernel_rfl) ?_
                          refine TA.all1 (i := 10) (by kernel_rfl) ?_
                          refine TB.of rfl ?_
                          refine TO.ghost (fun _ s => Sat.front 6 rfl s) ?_
                          refine TO.ghost (fun _ s => Sat.openRow hxq120_6_2 s) ?_
                          refine TO.app (k := 0) (f := cI) kelemB_22_3_1_8_true (by decide) rfl rfl rfl (OwnS.rd (Ent.at 2 rfl)) hkq120_10_3 (fun x c hc => by simp [Value.oneCell'] at hc ⊢; first | (obtain rfl := hc; rfl) | (rcases hc with rfl <;> rfl)) rfl rfl fun vq120_10_4 => ?_
                          refine TA.back (.inr (fun _ s => Sat.by [10, 10, 10, 10, 10, 10, 10, 10] 8 3 (by kernel_rfl) s)) ?_
                          refine TA.asL (L' := (OwnS 3 1 vq120_10_4 (yq120_10_2.map cI) :: SSh 22 3 1 cI v9 hs27 (y26) x48.2.1.toNat :: OwnS 3 1 vq120_9_1 (([x28] : List Int).map cI) :: Bx b50 106 [I x48.1, I x48.2.1, I x48.2.2.1, I x48.2.2.2] :: OwnS 28 1 v21 (y23.map cI) :: Bx b19 50 [v16] :: SS 22 3 1 cI v16 hs116 (y115) :: Bx b12 50 [v9] :: Bx b6 75 [v21, .slice none 0 0, .slice none 0 0] :: Bx b5 75 [.slice none 0 0, .slice none 0 0, .slice none 0 0] :: Bx b4 23 [h1] :: L)) (listed' := #[true, true, true, true, true, true, true, true, true, true, true, false, false]) (by kernel_rfl) (by kernel_rfl) ?_
                          refine TA.all1 (i := 11) (by kernel_rfl) ?_
                          refine TB.of rfl ?_
                          refine TO.s rfl rfl rfl (StepS.idxRH rfl rfl (Ent.at 1 rfl) ksliceB_50_22_1_true hxq120_11_2) ?_
                          refine TA.back (.inr (fun _ s => Sat.by [10, 10, 10, 10, 10, 10, 10, 10] 8 3 (by kernel_rfl) s)) ?_
                          refine TA.asL (L' := (OwnS 3 1 vq120_10_4 (yq120_10_2.map cI) :: SSh 22 3 1 cI v9 hs27 (y26) x48.2.1.toNat :: OwnS 3 1 vq120_9_1 (([x28] : List Int).map cI) :: Bx b50 106 [I x48.1, I x48.2.1, I x48.2.2.1, I x48.2.2.2] :: OwnS 28 1 v21 (y23.map cI) :: Bx b19 50 [v16] :: SS 22 3 1 cI v16 hs116 (y115) :: Bx b12 50 [v9] :: Bx b6 75 [v21, .slice none 0 0, .slice none 0 0] :: Bx b5 75 [.slice none 0 0, .slice none 0 0, .slice none 0 0] :: Bx b4 23 [h1] :: L)) (listed' := #[true, true, true, true, true, true, true, true, true, true, true, true, false]) (by kernel_rfl) (by kernel_rfl) ?_
                          refine TA.all1 (i := 12) (by kernel_rfl) ?_
                          refine TB.of rfl ?_
                          refine TO.ghost (fun _ s => Sat.front 1 rfl s) ?_
                          refine TO.stRowH (xs := yq120_10_2) rfl rfl hxq120_11_2 ksizeB_22_1_true ?_
                          refine TA.back (.inl (by kernel_rfl)) ?_
                          refine TA.asL (L' := (SS 22 3 1 cI v9 (hs27.set x48.2.1.toNat vq120_10_4) (y26.set x48.2.1.toNat yq120_10_2) :: OwnS 3 1 vq120_9_1 (([x28] : List Int).map cI) :: Bx b50 106 [I x48.1, I x48.2.1, I x48.2.2.1, I x48.2.2.2] :: OwnS 28 1 v21 (y23.map cI) :: Bx b19 50 [v16] :: SS 22 3 1 cI v16 hs116 (y115) :: Bx b12 50 [v9] :: Bx b6 75 [v21, .slice none 0 0, .slice none 0 0] :: Bx b5 75 [.slice none 0 0, .slice none 0 0, .slice none 0 0] :: Bx b4 23 [h1] :: L)) (listed' := #[true, true, true, true, true, true, true, true, true, true, true, true, true]) (by kernel_rfl) (by kernel_rfl) ?_
                          cases hj123
                          refine TA.nil (by kernel_rfl) fun a w e s => ?_
                          exact ⟨(hs27.set x48.2.1.toNat vq120_10_4), e.sub (lk_of_allIn ⟨rfl, rfl, rfl, rfl, rfl, rfl, rfl, rfl, rfl, rfl, rfl, trivial⟩), s.mono fun _ s => (by exact Sat.by [9, 9, 9, 3, 9, 9, 9, 9, 9] 9 1 (by kernel_rfl) s)⟩
                        · refine TB.of rfl ?_
                          refine TO.litS (f := cI) ([x28] : List Int) kelemB_22_3_1_8_true kinfo_3_bind_zero_some_I_0 rfl rfl (fun _ => rfl) rfl rfl (by kernel_rfl) rfl fun vq120_9_1 => ?_
                          refine TA.back (.inr (fun _ s => Sat.by [9, 9, 9, 8, 8, 8, 8, 8] 8 2 (by kernel_rfl) s)) ?_
                          refine TA.asL (L' := (OwnS 3 1 vq120_9_1 (([x28] : List Int).map cI) :: Bx b50 106 [I x48.1, I x48.2.1, I x48.2.2.1, I x48.2.2.2] :: OwnS 28 1 v21 (y23.map cI) :: Bx b19 50 [v16] :: SS 22 3 1 cI v16 hs116 (y115) :: Bx b12 50 [v9] :: SS 22 3 1 cI v9 hs27 (y26) :: Bx b6 75 [v21, .slice none 0 0, .slice none 0 0] :: Bx b5 75 [.slice none 0 0, .slice none 0 0, .slice none 0 0] :: Bx b4 23 [h1] :: L)) (listed' := #[true, true, true, true, true, true, true, false, true, true, false, false, false]) (by kernel_rfl) (by kernel_rfl) ?_
                          refine TA.all1 (i := 7) (by kernel_rfl) ?_
                          refine TB.of rfl ?_
                          refine TO.s rfl rfl rfl (StepS.ldRR rfl (SS.rr (Ent.at 6 rfl)) kscalB_22_true hxq120_6_2) ?_
                          refine TA.back (.inr (fun _ s => Sat.by [9, 9, 9, 8, 8, 8, 8, 8] 8 2 (by kernel_rfl) s)) ?_
                          refine TA.asL (L' := (OwnS 3 1 vq120_9_1 (([x28] : List Int).map cI) :: Bx b50 106 [I x48.1, I x48.2.1, I x48.2.2.1, I x48.2.2.2] :: OwnS 28 1 v21 (y23.map cI) :: Bx b19 50 [v16] :: SS 22 3 1 cI v16 hs116 (y115) :: Bx b12 50 [v9] :: SS 22 3 1 cI v9 hs27 (y26) :: Bx b6 75 [v21, .slice none 0 0, .slice none 0 0] :: Bx b5 75 [.slice none 0 0, .slice none 0 0, .slice none 0 0] :: Bx b4 23 [h1] :: L)) (listed' := #[true, true, true, true, true, true, true, true, true, true, false, false, false]) (by kernel_rfl) (by kernel_rfl) ?_
                          refine TA.all1 (i := 10) (by kernel_rfl) ?_
                          refine TB.of rfl ?_
                          refine TO.ghost (fun _ s => Sat.front 6 rfl s) ?_
                          refine TO.ghost (fun _ s => Sat.openRow hxq120_6_2 s) ?_
                          refine TO.app (k := 0) (f := cI) kelemB_22_3_1_8_true (by decide) rfl rfl rfl (OwnS.rd (Ent.at 2 rfl)) hkq120_10_3 (fun x c hc => by simp [Value.oneCell'] at hc ⊢; first | (obtain rfl := hc; rfl) | (rcases hc with rfl <;> rfl)) rfl rfl fun vq120_10_4 => ?_
                          refine TA.back (.inr (fun _ s => Sat.by [10, 10, 10, 10, 10, 10, 10, 10] 8 3 (by kernel_rfl) s)) ?_
                          refine TA.asL (L' := (OwnS 3 1 vq120_10_4 (yq120_10_2.map cI) :: SSh 22 3 1 cI v9 hs27 (y26) x48.2.1.toNat :: OwnS 3 1 vq120_9_1 (([x28] : List Int).map cI) :: Bx b50 106 [I x48.1, I x48.2.1, I x48.2.2.1, I x48.2.2.2] :: OwnS 28 1 v21 (y23.map cI) :: Bx b19 50 [v16] :: SS 22 3 1 cI v16 hs116 (y115) :: Bx b12 50 [v9] :: Bx b6 75 [v21, .slice none 0 0, .slice none 0 0] :: Bx b5 75 [.slice none 0 0, .slice none 0 0, .slice none 0 0] :: Bx b4 23 [h1] :: L)) (listed' := #[true, true, true, true, true, true, true, true, true, true, true, false, false]) (by kernel_rfl) (by kernel_rfl) ?_
                          refine TA.all1 (i := 11) (by kernel_rfl) ?_
                          refine TB.of rfl ?_
                          refine TO.s rfl rfl rfl (StepS.idxRH rfl rfl (Ent.at 1 rfl) ksliceB_50_22_1_true hxq120_11_2) ?_
                          refine TA.back (.inr (fun _ s => Sat.by [10, 10, 10, 10, 10, 10, 10, 10] 8 3 (by kernel_rfl) s)) ?_
                          refine TA.asL (L' := (OwnS 3 1 vq120_10_4 (yq120_10_2.map cI) :: SSh 22 3 1 cI v9 hs27 (y26) x48.2.1.toNat :: OwnS 3 1 vq120_9_1 (([x28] : List Int).map cI) :: Bx b50 106 [I x48.1, I x48.2.1, I x48.2.2.1, I x48.2.2.2] :: OwnS 28 1 v21 (y23.map cI) :: Bx b19 50 [v16] :: SS 22 3 1 cI v16 hs116 (y115) :: Bx b12 50 [v9] :: Bx b6 75 [v21, .slice none 0 0, .slice none 0 0] :: Bx b5 75 [.slice none 0 0, .slice none 0 0, .slice none 0 0] :: Bx b4 23 [h1] :: L)) (listed' := #[true, true, true, true, true, true, true, true, true, true, true, true, false]) (by kernel_rfl) (by kernel_rfl) ?_
                          refine TA.all1 (i := 12) (by kernel_rfl) ?_
                          refine TB.of rfl ?_
                          refine TO.ghost (fun _ s => Sat.front 1 rfl s) ?_
                          refine TO.stRowH (xs := yq120_10_2) rfl rfl hxq120_11_2 ksizeB_22_1_true ?_
                          refine TA.back (.inl (by kernel_rfl)) ?_
                          refine TA.asL (L' := (SS 22 3 1 cI v9 (hs27.set x48.2.1.toNat vq120_10_4) (y26.set x48.2.1.toNat yq120_10_2) :: OwnS 3 1 vq120_9_1 (([x28] : List Int).map cI) :: Bx b50 106 [I x48.1, I x48.2.1, I x48.2.2.1, I x48.2.2.2] :: OwnS 28 1 v21 (y23.map cI) :: Bx b19 50 [v16] :: SS 22 3 1 cI v16 hs116 (y115) :: Bx b12 50 [v9] :: Bx b6 75 [v21, .slice none 0 0, .slice none 0 0] :: Bx b5 75 [.slice none 0 0, .slice none 0 0, .slice none 0 0] :: Bx b4 23 [h1] :: L)) (listed' := #[true, true, true, true, true, true, true, true, true, true, true, true, true]) (by kernel_rfl) (by kernel_rfl) ?_
                          cases hj123
                          refine TA.nil (by kernel_rfl) fun a w e s => ?_
                          exact ⟨(hs27.set x48.2.1.toNat vq120_10_4), e.sub (lk_of_allIn ⟨rfl, rfl, rfl, rfl, rfl, rfl, rfl, rfl, rfl, rfl, rfl, trivial⟩), s.mono fun _ s => (by exact Sat.by [9, 9, 9, 3, 9, 9, 9, 9, 9] 9 1 (by kernel_rfl) s)⟩
                      · refine TB.of rfl ?_
                        refine TO.litS (f := cI) ([x28] : List Int) kelemB_22_3_1_8_true kinfo_3_bind_zero_some_I_0 rfl rfl (fun _ => rfl) rfl rfl (by kernel_rfl) rfl fun vq120_9_1 => ?_
                        refine TA.back (.inr (fun _ s => Sat.by [9, 9, 9, 8, 8, 8, 8, 8] 8 2 (by kernel_rfl) s)) ?_
                        refine TA.asL (L' := (OwnS 3 1 vq120_9_1 (([x28] : List Int).map cI) :: Bx b50 106 [I x48.1, I x48.2.1, I x48.2.2.1, I x48.2.2.2] :: OwnS 28 1 v21 (y23.map cI) :: Bx b19 50 [v16] :: SS 22 3 1 cI v16 hs116 (y115) :: Bx b12 50 [v9] :: SS 22 3 1 cI v9 hs27 (y26) :: Bx b6 75 [v21, .slice none 0 0, .slice none 0 0] :: Bx b5 75 [.slice none 0 0, .slice none 0 0, .slice none 0 0] :: Bx b4 23 [h1] :: L)) (listed' := #[true, true, true, true, true, true, false, false, true, true, false, false, false]) (by kernel_rfl) (by kernel_rfl) ?_
                        refine TA.all1 (i := 6) (by kernel_rfl) ?_
                        refine TB.of rfl ?_
                        refine TO.s rfl rfl rfl (StepS.idxRR rfl rfl (SS.rr (Ent.at 6 rfl)) ksliceB_50_22_1_true hxq120_6_2) ?_
                        refine TA.back (.inr (fun _ s => Sat.by [9, 9, 9, 8, 8, 8, 8, 8] 8 2 (by kernel_rfl) s)) ?_
                        refine TA.asL (L' := (OwnS 3 1 vq120_9_1 (([x28] : List Int).map cI) :: Bx b50 106 [I x48.1, I x48.2.1, I x48.2.2.1, I x48.2.2.2] :: OwnS 28 1 v21 (y23.map cI) :: Bx b19 50 [v16] :: SS 22 3 1 cI v16 hs116 (y115) :: Bx b12 50 [v9] :: SS 22 3 1 cI v9 hs27 (y26) :: Bx b6 75 [v21, .slice none 0 0, .slice none 0 0] :: Bx b5 75 [.slice none 0 0, .slice none 0 0, .slice none 0 0] :: Bx b4 23 [h1] :: L)) (listed' := #[true, true, true, true, true, true, true, false, true, true, false, false, false]) (by kernel_rfl) (by kernel_rfl) ?_
                        refine TA.all1 (i := 7) (by kernel_rfl) ?_
                        refine TB.of rfl ?_
                        refine TO.s rfl rfl rfl (StepS.ldRR rfl (SS.rr (Ent.at 6 rfl)) kscalB_22_true hxq120_6_2) ?_
                        refine TA.back (.inr (fun _ s => Sat.by [9, 9, 9, 8, 8, 8, 8, 8] 8 2 (by kernel_rfl) s)) ?_
                        refine TA.asL (L' := (OwnS 3 1 vq120_9_1 (([x28] : List Int).map cI) :: Bx b50 106 [I x48.1, I x48.2.1, I x48.2.2.1, I x48.2.2.2] :: OwnS 28 1 v21 (y23.map cI) :: Bx b19 50 [v16] :: SS 22 3 1 cI v16 hs116 (y115) :: Bx b12 50 [v9] :: SS 22 3 1 cI v9 hs27 (y26) :: Bx b6 75 [v21, .slice none 0 0, .slice none 0 0] :: Bx b5 75 [.slice none 0 0, .slice none 0 0, .slice none 0 0] :: Bx b4 23 [h1] :: L)) (listed' := #[true, true, true, true, true, true, true, true, true, true, false, false, false]) (by kernel_rfl) (by kernel_rfl) ?_
                        refine TA.all1 (i := 10) (by kernel_rfl) ?_
                        refine TB.of rfl ?_
                        refine TO.ghost (fun _ s => Sat.front 6 rfl s) ?_
                        refine TO.ghost (fun _ s => Sat.openRow hxq120_6_2 s) ?_
                        refine TO.app (k := 0) (f := cI) kelemB_22_3_1_8_true (by decide) rfl rfl rfl (OwnS.rd (Ent.at 2 rfl)) hkq120_10_3 (fun x c hc => by simp [Value.oneCell'] at hc ⊢; first | (obtain rfl := hc; rfl) | (rcases hc with rfl <;> rfl)) rfl rfl fun vq120_10_4 => ?_
                        refine TA.back (.inr (fun _ s => Sat.by [10, 10, 10, 10, 10, 10, 10, 10] 8 3 (by kernel_rfl) s)) ?_
                        refine TA.asL (L' := (OwnS 3 1 vq120_10_4 (yq120_10_2.map cI) :: SSh 22 3 1 cI v9 hs27 (y26) x48.2.1.toNat :: OwnS 3 1 vq120_9_1 (([x28] : List Int).map cI) :: Bx b50 106 [I x48.1, I x48.2.1, I x48.2.2.1, I x48.2.2.2] :: OwnS 28 1 v21 (y23.map cI) :: Bx b19 50 [v16] :: SS 22 3 1 cI v16 hs116 (y115) :: Bx b12 50 [v9] :: Bx b6 75 [v21, .slice none 0 0, .slice none 0 0] :: Bx b5 75 [.slice none 0 0, .slice none 0 0, .slice none 0 0] :: Bx b4 23 [h1] :: L)) (listed' := #[true, true, true, true, true, true, true, true, true, true, true, false, false]) (by kernel_rfl) (by kernel_rfl) ?_
                        refine TA.all1 (i := 11) (by kernel_rfl) ?_
                        refine TB.of rfl ?_
                        refine TO.s rfl rfl rfl (StepS.idxRH rfl rfl (Ent.at 1 rfl) ksliceB_50_22_1_true hxq120_11_2) ?_
                        refine TA.back (.inr (fun _ s => Sat.by [10, 10, 10, 10, 10, 10, 10, 10] 8 3 (by kernel_rfl) s)) ?_
                        refine TA.asL (L' := (OwnS 3 1 vq120_10_4 (yq120_10_2.map cI) :: SSh 22 3 1 cI v9 hs27 (y26) x48.2.1.toNat :: OwnS 3 1 vq120_9_1 (([x28] : List Int).map cI) :: Bx b50 106 [I x48.1, I x48.2.1, I x48.2.2.1, I x48.2.2.2] :: OwnS 28 1 v21 (y23.map cI) :: Bx b19 50 [v16] :: SS 22 3 1 cI v16 hs116 (y115) :: Bx b12 50 [v9] :: Bx b6 75 [v21, .slice none 0 0, .slice none 0 0] :: Bx b5 75 [.slice none 0 0, .slice none 0 0, .slice none 0 0] :: Bx b4 23 [h1] :: L)) (listed' := #[true, true, true, true, true, true, true, true, true, true, true, true, false]) (by kernel_rfl) (by kernel_rfl) ?_
                        refine TA.all1 (i := 12) (by kernel_rfl) ?_
                        refine TB.of rfl ?_
                        refine TO.ghost (fun _ s => Sat.front 1 rfl s) ?_
                        refine TO.stRowH (xs := yq120_10_2) rfl rfl hxq120_11_2 ksizeB_22_1_true ?_
                        refine TA.back (.inl (by kernel_rfl)) ?_
                        refine TA.asL (L' := (SS 22 3 1 cI v9 (hs27.set x48.2.1.toNat vq120_10_4) (y26.set x48.2.1.toNat yq120_10_2) :: OwnS 3 1 vq120_9_1 (([x28] : List Int).map cI) :: Bx b50 106 [I x48.1, I x48.2.1, I x48.2.2.1, I x48.2.2.2] :: OwnS 28 1 v21 (y23.map cI) :: Bx b19 50 [v16] :: SS 22 3 1 cI v16 hs116 (y115) :: Bx b12 50 [v9] :: Bx b6 75 [v21, .slice none 0 0, .slice none 0 0] :: Bx b5 75 [.slice none 0 0, .slice none 0 0, .slice none 0 0] :: Bx b4 23 [h1] :: L)) (listed' := #[true, true, true, true, true, true, true, true, true, true, true, true, true]) (by kernel_rfl) (by kernel_rfl) ?_
                        cases hj123
                        refine TA.nil (by kernel_rfl) fun a w e s => ?_
                        exact ⟨(hs27.set x48.2.1.toNat vq120_10_4), e.sub (lk_of_allIn ⟨rfl, rfl, rfl, rfl, rfl, rfl, rfl, rfl, rfl, rfl, rfl, trivial⟩), s.mono fun _ s => (by exact Sat.by [9, 9, 9, 3, 9, 9, 9, 9, 9] 9 1 (by kernel_rfl) s)⟩
                    · intro a w ⟨hs122, he, hs⟩
                      cases hj57
                      have e := he; have s := hs
                      exact ⟨hs116, hs122, e.sub (lk_of_allIn ⟨rfl, rfl, rfl, rfl, rfl, rfl, rfl, rfl, rfl, rfl, rfl, trivial⟩), s⟩
      · intro a w ⟨hs53, hs55, he, hs⟩
        refine TC.use ?_ he hs
        refine TC.region ?_
        refine TO.s rfl rfl rfl (StepS.fld rfl kfieldB_75_0_0_true) ?_
        refine TO.s rfl rfl rfl (StepS.ldB rfl (Ent.at 6 rfl) kscalB_24_true rfl) ?_
        refine TO.s rfl rfl rfl (StepS.move rfl) ?_
        refine TO.litS (f := cI) ([x56] : List Int) kelemB_24_28_1_8_true kinfo_28_bind_zero_some_I_0 rfl rfl (fun _ => rfl) rfl rfl (by kernel_rfl) rfl fun v124 => ?_
        obtain ⟨y126, hk127, hb46⟩ := bind_some hb46
        refine TO.app (k := 2) (f := cI) kelemB_24_28_1_8_true (by decide) rfl rfl rfl (OwnS.rd (Ent.at 0 rfl)) hk127 (fun x c hc => by simp [Value.oneCell'] at hc ⊢; first | (obtain rfl := hc; rfl) | (rcases hc with rfl <;> rfl)) rfl rfl fun v128 => ?_
        refine TO.s rfl rfl rfl (StepS.fld rfl kfieldB_75_0_0_true) ?_
        refine TO.pure (fun _ s => Rd.one (OwnS.rd (Ent.at 2 rfl)) s) fun oc129 => ?_
        refine TO.stB (us := [v128]) 7 [v128, .slice none 0 0, .slice none 0 0] rfl rfl rfl ksizeB_24_1_true oc129.2 rfl rfl (by intro u hu; simp only [List.mem_cons, List.not_mem_nil, or_false] at hu; rcases hu with rfl <;> first | exact oc129.1 | rfl) rfl ?_
        refine TO.code ?_
        refine TC.region ?_
        refine TO.s rfl rfl rfl (StepS.ari rfl rfl rfl) ?_
        refine TO.s rfl rfl rfl (StepS.move rfl) ?_
        cases hb46
        refine TO.nil fun a w e s => ?_
        exact ⟨v128, hs53, hs55, e.sub (lk_of_allIn ⟨rfl, rfl, rfl, rfl, rfl, rfl, rfl, rfl, rfl, rfl, trivial⟩), s.mono fun _ => Sat.dropN 2⟩
    · replace hb46 := cond_f hc47 hb46
      cases hb46
      refine TC.exit rfl fun a w e s => ?_
      exact ⟨v21, hs25, hs27, e.sub (lk_of_allIn ⟨rfl, rfl, rfl, rfl, rfl, rfl, trivial⟩), s⟩
  · exact fun a w e s => ⟨.slice none 0 0, hs17, hs10, e.sub (lk_of_allIn ⟨rfl, rfl, rfl, rfl, rfl, rfl, rfl, rfl, rfl, rfl, trivial⟩), s.mono fun _ s => (by replace s := Sat.nilS (e := 28) (sz := 1) (f := cI) s; exact Sat.by [7, 7, 7, 7, 7, 7, 7, 7] 8 0 (by kernel_rfl) s)⟩
  · rintro ⟨y39, y40, y42⟩ rfl a w ⟨v37, hs41, hs43, he, hs⟩
    dsimp only [Ctl.on] at hm
    refine TC.use ?_ he hs
    refine TC.k ?_
    refine TC.k ?_
    refine TC.region ?_
    refine TO.s rfl rfl rfl (StepS.assign rfl) ?_
    refine TO.code ?_
    obtain ⟨o153, hw154, hm⟩ := bind_some hm
    refine TC.loop hw154 (fun (y133, y136, x137) => fun a w => ∃ v130 : Value, ∃ hs131 : List Value, ∃ v134 : Value, Mid 235 B [(0, I a0), (3, .pointer (some ⟨b4, 0, none⟩)), (4, .pointer (some ⟨b5, 0, none⟩)), (5, .pointer (some ⟨b6, 0, none⟩)), (6, .pointer (some ⟨b12, 0, none⟩)), (8, .func (.func 71) #[] #[.pointer (some ⟨b12, 0, none⟩), .pointer (some ⟨b4, 0, none⟩), .pointer (some ⟨b19, 0, none⟩)]), (14, I x137)] (SS 22 3 1 cI v130 hs131 (y133) :: OwnS 3 1 v134 (y136.map cI) :: OwnS 28 1 v37 (y39.map cI) :: Bx b19 50 [v16] :: SS 22 3 1 cI v16 hs41 (y40) :: Bx b12 50 [v9] :: SS 22 3 1 cI v9 hs43 (y42) :: Bx b6 75 [v37, v130, v134] :: Bx b5 75 [.slice none 0 0, .slice none 0 0, .slice none 0 0] :: Bx b4 23 [h1] :: L) a w) (fun (y149, y152) => fun a w => ∃ v146 : Value, ∃ hs147 : List Value, ∃ v150 : Value, Mid 235 B [(4, .pointer (some ⟨b5, 0, none⟩)), (5, .pointer (some ⟨b6, 0, none⟩))] (SS 22 3 1 cI v146 hs147 (y149) :: OwnS 3 1 v150 (y152.map cI) :: OwnS 28 1 v37 (y39.map cI) :: Bx b19 50 [v16] :: SS 22 3 1 cI v16 hs41 (y40) :: Bx b12 50 [v9] :: SS 22 3 1 cI v9 hs43 (y42) :: Bx b6 75 [v37, v146, v150] :: Bx b5 75 [.slice none 0 0, .slice none 0 0, .slice none 0 0] :: Bx b4 23 [h1] :: L) a w) (fun (_ : Unit) _ _ => False) ?_ ?_ ?_ ?_
    · rintro ⟨y133, y136, x137⟩ o153r hb155 a w ⟨v130, hs131, v134, he, hs⟩
      dsimp only [F37_L2] at hb155
      refine TC.use ?_ he hs
      refine TC.k ?_
      refine TC.k ?_
      refine TC.region ?_
      refine TO.s rfl rfl rfl (StepS.move rfl) ?_
      refine TO.s rfl rfl rfl (StepS.move rfl) ?_
      refine TO.s rfl rfl rfl (StepS.cmp rfl rfl rfl) ?_
      refine TO.code ?_
      refine TC.cond rfl (fun hc156 => ?_) (fun hc156 => ?_)
      · replace hb155 := cond_t hc156 hb155
        refine TC.skipk ?_
        refine TC.k ?_
        refine TC.block ?_
        refine TC.k ?_
        refine TC.region ?_
        refine TO.s rfl rfl rfl (StepS.assign rfl) ?_
        refine TO.code ?_
        refine TC.k ?_
        refine TC.k ?_
        refine TC.region ?_
        refine TO.s rfl rfl rfl (StepS.assign rfl) ?_
        refine TO.code ?_
        obtain ⟨o168, hw169, hb155⟩ := bind_some hb155
        refine TC.loop hw169 (fun (y159, x160) => fun a w => ∃ v157 : Value, Mid 235 B [(0, I a0), (3, .pointer (some ⟨b4, 0, none⟩)), (4, .pointer (some ⟨b5, 0, none⟩)), (5, .pointer (some ⟨b6, 0, none⟩)), (6, .pointer (some ⟨b12, 0, none⟩)), (8, .func (.func 71) #[] #[.pointer (some ⟨b12, 0, none⟩), .pointer (some ⟨b4, 0, none⟩), .pointer (some ⟨b19, 0, none⟩)]), (14, I x137), (15, v157), (16, I x160)] (OwnS 3 1 v157 (y159.map cI) :: SS 22 3 1 cI v130 hs131 (y133) :: OwnS 3 1 v134 (y136.map cI) :: OwnS 28 1 v37 (y39.map cI) :: Bx b19 50 [v16] :: SS 22 3 1 cI v16 hs41 (y40) :: Bx b12 50 [v9] :: SS 22 3 1 cI v9 hs43 (y42) :: Bx b6 75 [v37, v130, v134] :: Bx b5 75 [.slice none 0 0, .slice none 0 0, .slice none 0 0] :: Bx b4 23 [h1] :: L) a w) (fun y167 => fun a w => ∃ v165 : Value, Mid 235 B [(0, I a0), (3, .pointer (some ⟨b4, 0, none⟩)), (4, .pointer (some ⟨b5, 0, none⟩)), (5, .pointer (some ⟨b6, 0, none⟩)), (6, .pointer (some ⟨b12, 0, none⟩)), (8, .func (.func 71) #[] #[.pointer (some ⟨b12, 0, none⟩), .pointer (some ⟨b4, 0, none⟩), .pointer (some ⟨b19, 0, none⟩)]), (14, I x137), (15, v165)] (OwnS 3 1 v165 (y167.map cI) :: SS 22 3 1 cI v130 hs131 (y133) :: OwnS 3 1 v134 (y136.map cI) :: OwnS 28 1 v37 (y39.map cI) :: Bx b19 50 [v16] :: SS 22 3 1 cI v16 hs41 (y40) :: Bx b12 50 [v9] :: SS 22 3 1 cI v9 hs43 (y42) :: Bx b6 75 [v37, v130, v134] :: Bx b5 75 [.slice none 0 0, .slice none 0 0, .slice none 0 0] :: Bx b4 23 [h1] :: L) a w) (fun (_ : Unit) _ _ => False) ?_ ?_ ?_ ?_
        · rintro ⟨y159, x160⟩ o168r hb170 a w ⟨v157, he, hs⟩
          dsimp only [F37_L3] at hb170
          refine TC.use ?_ he hs
          refine TC.k ?_
          refine TC.k ?_
          refine TC.region ?_
          refine TO.s rfl rfl rfl (StepS.move rfl) ?_
          refine TO.s rfl rfl rfl (StepS.cmp rfl rfl rfl) ?_
          refine TO.code ?_
          refine TC.cond rfl (fun hc171 => ?_) (fun hc171 => ?_)
          · replace hb170 := cond_t hc171 hb170
            refine TC.skipk ?_
            refine TC.k ?_
            obtain ⟨y172, hj174, hb170⟩ := bind_some hb170
            first | refine TC.cutM (fun a w => ∃ v173 : Value, Mid 235 B [(0, I a0), (3, .pointer (some ⟨b4, 0, none⟩)), (4, .pointer (some ⟨b5, 0, none⟩)), (5, .pointer (some ⟨b6, 0, none⟩)), (6, .pointer (some ⟨b12, 0, none⟩)), (8, .func (.func 71) #[] #[.pointer (some ⟨b12, 0, none⟩), .pointer (some ⟨b4, 0, none⟩), .pointer (some ⟨b19, 0, none⟩)]), (14, I x137), (15, v173), (16, I x160)] (OwnS 3 1 v173 (y172.map cI) :: SS 22 3 1 cI v130 hs131 (y133) :: OwnS 3 1 v134 (y136.map cI) :: OwnS 28 1 v37 (y39.map cI) :: Bx b19 50 [v16] :: SS 22 3 1 cI v16 hs41 (y40) :: Bx b12 50 [v9] :: SS 22 3 1 cI v9 hs43 (y42) :: Bx b6 75 [v37, v130, v134] :: Bx b5 75 [.slice none 0 0, .slice none 0 0, .slice none 0 0] :: Bx b4 23 [h1] :: L) a w) ?_ ?_ | refine TC.cutX (fun a w => ∃ v173 : Value, Mid 235 B [(0, I a0), (3, .pointer (some ⟨b4, 0, none⟩)), (4, .pointer (some ⟨b5, 0, none⟩)), (5, .pointer (some ⟨b6, 0, none⟩)), (6, .pointer (some ⟨b12, 0, none⟩)), (8, .func (.func 71) #[] #[.pointer (some ⟨b12, 0, none⟩), .pointer (some ⟨b4, 0, none⟩), .pointer (some ⟨b19, 0, none⟩)]), (14, I x137), (15, v173), (16, I x160)] (OwnS 3 1 v173 (y172.map cI) :: SS 22 3 1 cI v130 hs131 (y133) :: OwnS 3 1 v134 (y136.map cI) :: OwnS 28 1 v37 (y39.map cI) :: Bx b19 50 [v16] :: SS 22 3 1 cI v16 hs41 (y40) :: Bx b12 50 [v9] :: SS 22 3 1 cI v9 hs43 (y42) :: Bx b6 75 [v37, v130, v134] :: Bx b5 75 [.slice none 0 0, .slice none 0 0, .slice none 0 0] :: Bx b4 23 [h1] :: L) a w) ?_ ?_
            · refine TC.block ?_
              refine TC.k ?_
              refine TC.region ?_
              refine TO.s rfl rfl rfl (StepS.move rfl) ?_
              refine TO.s rfl rfl rfl (StepS.move rfl) ?_
              refine TO.s rfl rfl rfl (StepS.move rfl) ?_
              obtain ⟨r175, hc176, hj174⟩ := bind_some hj174
              refine TO.callOC kcallB_71_true rfl rfl rfl rfl (fun _ st => C71 (Ent.at 6 rfl) (SS.rr (Ent.at 7 rfl)) (Ent.at 10 rfl) e1.tl.tl.tl.tl.tl.tl.tl.tl.tl.tl.tl (Ent.at 4 rfl) (SS.rr (Ent.at 5 rfl)) hc176 st) ?_
              rintro v177 _ ⟨_, rfl, rfl⟩
              refine TO.s rfl rfl rfl (StepS.lenm rfl (OwnS.rd (Ent.at 0 rfl)) ksliceB_22_3_1_true rfl) ?_
              refine TO.s rfl rfl rfl (StepS.cmp rfl rfl rfl) ?_
              refine TO.code ?_
              refine TC.cond rfl (fun hc179 => ?_) (fun hc179 => ?_)
              · replace hj174 := cond_t hc179 hj174
                refine TC.region ?_
                refine TO.s rfl rfl rfl (StepS.move rfl) ?_
                refine TO.s rfl rfl rfl (StepS.move rfl) ?_
                refine TO.litS (f := cI) ([x160] : List Int) kelemB_22_3_1_8_true kinfo_3_bind_zero_some_I_0 rfl rfl (fun _ => rfl) rfl rfl (by kernel_rfl) rfl fun v180 => ?_
                obtain ⟨y182, hk183, hj174⟩ := bind_some hj174
                refine TO.app (k := 2) (f := cI) kelemB_22_3_1_8_true (by decide) rfl rfl rfl (OwnS.rd (Ent.at 0 rfl)) hk183 (fun x c hc => by simp [Value.oneCell'] at hc ⊢; first | (obtain rfl := hc; rfl) | (rcases hc with rfl <;> rfl)) rfl rfl fun v184 => ?_
                refine TO.s rfl rfl rfl (StepS.assign rfl) ?_
                cases hj174
                refine TO.nil fun a w e s => ?_
                exact ⟨v184, e.sub (lk_of_allIn ⟨rfl, rfl, rfl, rfl, rfl, rfl, rfl, rfl, rfl, trivial⟩), s.mono fun _ => Sat.dropN 2⟩
              · replace hj174 := cond_f hc179 hj174
                cases hj174
                refine TC.skip fun a w e s => ?_
                exact ⟨v157, e.sub (lk_of_allIn ⟨rfl, rfl, rfl, rfl, rfl, rfl, rfl, rfl, rfl, trivial⟩), s.mono fun _ => Sat.dropN 1⟩
            · intro a w ⟨v173, he, hs⟩
              refine TC.use ?_ he hs
              refine TC.region ?_
              refine TO.s rfl rfl rfl (StepS.move rfl) ?_
              refine TO.s rfl rfl rfl (StepS.ari rfl rfl rfl) ?_
              refine TO.s rfl rfl rfl (StepS.assign rfl) ?_
              cases hb170
              refine TO.nil fun a w e s => ?_
              exact ⟨v173, e.sub (lk_of_allIn ⟨rfl, rfl, rfl, rfl, rfl, rfl, rfl, rfl, rfl, trivial⟩), s⟩
          · replace hb170 := cond_f hc171 hb170
            cases hb170
            refine TC.exit rfl fun a w e s => ?_
            exact ⟨v157, e.sub (lk_of_allIn ⟨rfl, rfl, rfl, rfl, rfl, rfl, rfl, rfl, trivial⟩), s⟩
        · exact fun a w e s => ⟨.slice none 0 0, e.sub (lk_of_allIn ⟨rfl, rfl, rfl, rfl, rfl, rfl, rfl, rfl, rfl, trivial⟩), s.mono fun _ s => (by replace s := Sat.nilS (e := 3) (sz := 1) (f := cI) s; exact Sat.by [10, 10, 10, 10, 10, 10, 10, 10, 10, 10, 10] 11 0 (by kernel_rfl) s)⟩
        · rintro y167 rfl a w ⟨v165, he, hs⟩
          dsimp only [Ctl.on] at hb155
          refine TC.use ?_ he hs
          refine TC.k ?_
          refine TC.region ?_
          refine TO.s rfl rfl rfl (StepS.assign rfl) ?_
          refine TO.code ?_
          refine TC.k ?_
          refine TC.k ?_
          refine TC.region ?_
          refine TO.s rfl rfl rfl (StepS.ldB rfl (Ent.at 6 rfl) kscalB_50_true rfl) ?_
          refine TO.s rfl rfl rfl (StepS.move rfl) ?_
          obtain ⟨x185, hx186, hb155⟩ := bind_some hb155
          refine TO.s rfl rfl rfl (StepS.idxRR rfl rfl (SS.rr (Ent.at 7 rfl)) ksliceB_50_22_1_true hx186) ?_
          refine TO.s rfl rfl rfl (StepS.ldRR rfl (SS.rr (Ent.at 7 rfl)) kscalB_22_true hx186) ?_
          refine TO.s rfl rfl rfl (StepS.lenm rfl (RR.row (SS.rr (Ent.at 7 rfl)) hx186) ksliceB_22_3_1_true rfl) ?_
          refine TO.s rfl rfl rfl (StepS.move rfl) ?_
          refine TO.code ?_
          obtain ⟨o193, hw194, hb155⟩ := bind_some hb155
          refine TC.loop hw194 (fun (x188, x189) => fun a w => Mid 235 B [(0, I a0), (3, .pointer (some ⟨b4, 0, none⟩)), (4, .pointer (some ⟨b5, 0, none⟩)), (5, .pointer (some ⟨b6, 0, none⟩)), (6, .pointer (some ⟨b12, 0, none⟩)), (8, .func (.func 71) #[] #[.pointer (some ⟨b12, 0, none⟩), .pointer (some ⟨b4, 0, none⟩), .pointer (some ⟨b19, 0, none⟩)]), (14, I x137), (15, v165), (17, I x188), (202, (rowv hs43 x137.toNat)), (203, I (x185.length : Int)), (204, I x189)] (OwnS 3 1 v165 (y167.map cI) :: SS 22 3 1 cI v130 hs131 (y133) :: OwnS 3 1 v134 (y136.map cI) :: OwnS 28 1 v37 (y39.map cI) :: Bx b19 50 [v16] :: SS 22 3 1 cI v16 hs41 (y40) :: Bx b12 50 [v9] :: SS 22 3 1 cI v9 hs43 (y42) :: Bx b6 75 [v37, v130, v134] :: Bx b5 75 [.slice none 0 0, .slice none 0 0, .slice none 0 0] :: Bx b4 23 [h1] :: L) a w) (fun x192 => fun a w => Mid 235 B [(0, I a0), (3, .pointer (some ⟨b4, 0, none⟩)), (4, .pointer (some ⟨b5, 0, none⟩)), (5, .pointer (some ⟨b6, 0, none⟩)), (6, .pointer (some ⟨b12, 0, none⟩)), (8, .func (.func 71) #[] #[.pointer (some ⟨b12, 0, none⟩), .pointer (some ⟨b4, 0, none⟩), .pointer (some ⟨b19, 0, none⟩)]), (14, I x137), (15, v165), (17, I x192)] (OwnS 3 1 v165 (y167.map cI) :: SS 22 3 1 cI v130 hs131 (y133) :: OwnS 3 1 v134 (y136.map cI) :: OwnS 28 1 v37 (y39.map cI) :: Bx b19 50 [v16] :: SS 22 3 1 cI v16 hs41 (y40) :: Bx b12 50 [v9] :: SS 22 3 1 cI v9 hs43 (y42) :: Bx b6 75 [v37, v130, v134] :: Bx b5 75 [.slice none 0 0, .slice none 0 0, .slice none 0 0] :: Bx b4 23 [h1] :: L) a w) (fun (_ : Unit) _ _ => False) ?_ ?_ ?_ ?_
          · rintro ⟨x188, x189⟩ o193r hb195 a w ⟨he, hs⟩
            dsimp only [F37_L4] at hb195
            refine TC.use ?_ he hs
            refine TC.k ?_
            refine TC.region ?_
            refine TO.s rfl rfl rfl (StepS.cmp rfl rfl rfl) ?_
            refine TO.code ?_
            refine TC.k ?_
            refine TC.cond rfl (fun hc196 => ?_) (fun hc196 => ?_)
            · replace hb195 := cond_t hc196 hb195
              refine TC.skipk ?_
              refine TC.k ?_
              obtain ⟨x197, hj198, hb195⟩ := bind_some hb195
              first | refine TC.cutM (fun a w => Mid 235 B [(0, I a0), (3, .pointer (some ⟨b4, 0, none⟩)), (4, .pointer (some ⟨b5, 0, none⟩)), (5, .pointer (some ⟨b6, 0, none⟩)), (6, .pointer (some ⟨b12, 0, none⟩)), (8, .func (.func 71) #[] #[.pointer (some ⟨b12, 0, none⟩), .pointer (some ⟨b4, 0, none⟩), .pointer (some ⟨b19, 0, none⟩)]), (14, I x137), (15, v165), (17, I x197), (202, (rowv hs43 x137.toNat)), (203, I (x185.length : Int)), (204, I x189)] (OwnS 3 1 v165 (y167.map cI) :: SS 22 3 1 cI v130 hs131 (y133) :: OwnS 3 1 v134 (y136.map cI) :: OwnS 28 1 v37 (y39.map cI) :: Bx b19 50 [v16] :: SS 22 3 1 cI v16 hs41 (y40) :: Bx b12 50 [v9] :: SS 22 3 1 cI v9 hs43 (y42) :: Bx b6 75 [v37, v130, v134] :: Bx b5 75 [.slice none 0 0, .slice none 0 0, .slice none 0 0] :: Bx b4 23 [h1] :: L) a w) ?_ ?_ | refine TC.cutX (fun a w => Mid 235 B [(0, I a0), (3, .pointer (some ⟨b4, 0, none⟩)), (4, .pointer (some ⟨b5, 0, none⟩)), (5, .pointer (some ⟨b6, 0, none⟩)), (6, .pointer (some ⟨b12, 0, none⟩)), (8, .func (.func 71) #[] #[.pointer (some ⟨b12, 0, none⟩), .pointer (some ⟨b4, 0, none⟩), .pointer (some ⟨b19, 0, none⟩)]), (14, I x137), (15, v165), (17, I x197), (202, (rowv hs43 x137.toNat)), (203, I (x185.length : Int)), (204, I x189)] (OwnS 3 1 v165 (y167.map cI) :: SS 22 3 1 cI v130 hs131 (y133) :: OwnS 3 1 v134 (y136.map cI) :: OwnS 28 1 v37 (y39.map cI) :: Bx b19 50 [v16] :: SS 22 3 1 cI v16 hs41 (y40) :: Bx b12 50 [v9] :: SS 22 3 1 cI v9 hs43 (y42) :: Bx b6 75 [v37, v130, v134] :: Bx b5 75 [.slice none 0 0, .slice none 0 0, .slice none 0 0] :: Bx b4 23 [h1] :: L) a w) ?_ ?_
              · refine TC.block ?_
                refine TC.k ?_
                refine TC.region ?_
                obtain ⟨x199, hx200, hj198⟩ := bind_some hj198
                refine TO.s rfl rfl rfl (StepS.idx rfl rfl (RR.row (SS.rr (Ent.at 7 rfl)) hx186) ksliceB_22_3_1_true (idx_spec hx200).1 (idxm_lt hx200)) ?_
                refine TO.s rfl rfl rfl (StepS.ld0 rfl (RR.row (SS.rr (Ent.at 7 rfl)) hx186) kscalB_3_true rfl (idxm hx200) rfl) ?_
                refine TO.s rfl rfl rfl (StepS.assign rfl) ?_
                refine TO.code ?_
                refine TC.k ?_
                refine TC.region ?_
                refine TO.s rfl rfl rfl (StepS.ldB rfl (Ent.at 10 rfl) kscalB_23_true rfl) ?_
                refine TO.s rfl rfl rfl (StepS.move rfl) ?_
                obtain ⟨x201, hx202, hj198⟩ := bind_some hj198
                refine TO.s rfl rfl rfl (StepS.idx rfl rfl e1.tl.tl.tl.tl.tl.tl.tl.tl.tl.tl.tl ksliceB_23_106_4_true (idx_spec hx202).1 (idxm_lt hx202)) ?_
                refine TO.s rfl rfl rfl (StepS.ptrf rfl kfieldB_106_0_0_true) ?_
                refine TO.s rfl rfl rfl (StepS.ld1 rfl e1.tl.tl.tl.tl.tl.tl.tl.tl.tl.tl.tl kscalB_3_true rfl (idxm hx202) rfl) ?_
                refine TO.s rfl rfl rfl (StepS.cmp rfl rfl rfl) ?_
                refine TO.code ?_
                refine TC.cond rfl (fun hc203 => ?_) (fun hc203 => ?_)
                · replace hj198 := cond_t hc203 hj198
                  refine TC.region ?_
                  refine TO.s rfl rfl rfl (StepS.move rfl) ?_
                  refine TO.s rfl rfl rfl (StepS.ldB rfl (Ent.at 10 rfl) kscalB_23_true rfl) ?_
                  refine TO.s rfl rfl rfl (StepS.move rfl) ?_
                  obtain ⟨x204, hx205, hj198⟩ := bind_some hj198
                  refine TO.s rfl rfl rfl (StepS.idx rfl rfl e1.tl.tl.tl.tl.tl.tl.tl.tl.tl.tl.tl ksliceB_23_106_4_true (idx_spec hx205).1 (idxm_lt hx205)) ?_
                  refine TO.s rfl rfl rfl (StepS.ptrf rfl kfieldB_106_3_3_true) ?_
                  refine TO.s rfl rfl rfl (StepS.ld1 rfl e1.tl.tl.tl.tl.tl.tl.tl.tl.tl.tl.tl kscalB_3_true rfl (idxm hx205) rfl) ?_
                  refine TO.s rfl rfl rfl (StepS.ari rfl rfl rfl) ?_
                  refine TO.s rfl rfl rfl (StepS.assign rfl) ?_
                  cases hj198
                  refine TO.nil fun a w e s => ?_
                  exact ⟨e.sub (lk_of_allIn ⟨rfl, rfl, rfl, rfl, rfl, rfl, rfl, rfl, rfl, rfl, rfl, rfl, trivial⟩), s⟩
                · replace hj198 := cond_f hc203 hj198
                  cases hj198
                  refine TC.skip fun a w e s => ?_
                  exact ⟨e.sub (lk_of_allIn ⟨rfl, rfl, rfl, rfl, rfl, rfl, rfl, rfl, rfl, rfl, rfl, rfl, trivial⟩), s⟩
              · intro a w ⟨he, hs⟩
                refine TC.use ?_ he hs
                refine TC.region ?_
                refine TO.s rfl rfl rfl (StepS.ari rfl rfl rfl) ?_
                refine TO.s rfl rfl rfl (StepS.move rfl) ?_
                cases hb195
                refine TO.nil fun a w e s => ?_
                exact ⟨e.sub (lk_of_allIn ⟨rfl, rfl, rfl, rfl, rfl, rfl, rfl, rfl, rfl, rfl, rfl, rfl, trivial⟩), s⟩
            · replace hb195 := cond_f hc196 hb195
              cases hb195
              refine TC.exit rfl fun a w e s => ?_
              exact ⟨e.sub (lk_of_allIn ⟨rfl, rfl, rfl, rfl, rfl, rfl, rfl, rfl, rfl, trivial⟩), s⟩
          · exact fun a w e s => ⟨e.sub (lk_of_allIn ⟨rfl, rfl, rfl, rfl, rfl, rfl, rfl, rfl, rfl, rfl, rfl, rfl, trivial⟩), s⟩
          · rintro x192 rfl a w ⟨he, hs⟩
            dsimp only [Ctl.on] at hb155
            refine TC.use ?_ he hs
            refine TC.k ?_
            refine TC.region ?_
            refine TO.s rfl rfl rfl (StepS.fld rfl kfieldB_75_1_1_true) ?_
            refine TO.s rfl rfl rfl (StepS.ldB rfl (Ent.at 8 rfl) kscalB_50_true rfl) ?_
            refine TO.s rfl rfl rfl (StepS.move rfl) ?_
            refine TO.lit1H rfl (OwnS.rd (Ent.at 0 rfl)) kelemB_50_22_1_24_true rfl fun v206 => ?_
            refine TO.ghost (fun _ s => Sat.front 2 rfl s) ?_
            refine TO.ghost (fun _ s => Sat.front 2 rfl s) ?_
            obtain ⟨y209, hk210, hb155⟩ := bind_some hb155
            refine TO.appSS (row := y167) rfl kelemB_50_22_1_24_true rfl rfl (OwnS.rd (Ent.at 0 rfl)) hk210 rfl rfl fun v211 hs212 => ?_
            refine TO.ghost (fun _ s => Sat.erase 1 s) ?_
            refine TO.s rfl rfl rfl (StepS.fld rfl kfieldB_75_1_1_true) ?_
            refine TO.pure (fun _ s => Rd.one (RR.top (SS.rr (Ent.at 0 rfl))) s) fun oc213 => ?_
            refine TO.stB (us := [v211]) 7 [v37, v211, v134] rfl rfl rfl ksizeB_50_1_true oc213.2 rfl rfl (by intro u hu; simp only [List.mem_cons, List.not_mem_nil, or_false] at hu; rcases hu with rfl <;> first | exact oc213.1 | rfl) rfl ?_
            refine TO.code ?_
            refine TC.region ?_
            refine TO.s rfl rfl rfl (StepS.fld rfl kfieldB_75_2_2_true) ?_
            refine TO.s rfl rfl rfl (StepS.ldB rfl (Ent.at 7 rfl) kscalB_22_true rfl) ?_
            refine TO.s rfl rfl rfl (StepS.move rfl) ?_
            refine TO.litS (f := cI) ([x192] : List Int) kelemB_22_3_1_8_true kinfo_3_bind_zero_some_I_0 rfl rfl (fun _ => rfl) rfl rfl (by kernel_rfl) rfl fun v214 => ?_
            obtain ⟨y216, hk217, hb155⟩ := bind_some hb155
            refine TO.app (k := 2) (f := cI) kelemB_22_3_1_8_true (by decide) rfl rfl rfl (OwnS.rd (Ent.at 0 rfl)) hk217 (fun x c hc => by simp [Value.oneCell'] at hc ⊢; first | (obtain rfl := hc; rfl) | (rcases hc with rfl <;> rfl)) rfl rfl fun v218 => ?_
            refine TO.s rfl rfl rfl (StepS.fld rfl kfieldB_75_2_2_true) ?_
            refine TO.pure (fun _ s => Rd.one (OwnS.rd (Ent.at 2 rfl)) s) fun oc219 => ?_
            refine TO.stB (us := [v218]) 8 [v37, v211, v218] rfl rfl rfl ksizeB_22_1_true oc219.2 rfl rfl (by intro u hu; simp only [List.mem_cons, List.not_mem_nil, or_false] at hu; rcases hu with rfl <;> first | exact oc219.1 | rfl) rfl ?_
            refine TO.code ?_
            refine TC.region ?_
            refine TO.s rfl rfl rfl (StepS.move rfl) ?_
            refine TO.s rfl rfl rfl (StepS.ari rfl rfl rfl) ?_
            refine TO.s rfl rfl rfl (StepS.assign rfl) ?_
            cases hb155
            refine TO.nil fun a w e s => ?_
            exact ⟨v211, hs212, v218, e.sub (lk_of_allIn ⟨rfl, rfl, rfl, rfl, rfl, rfl, rfl, trivial⟩), s.mono fun _ => Sat.dropN 1⟩
          · rintro r rfl
            exact fun a w h => h.elim
        · rintro r rfl
          exact fun a w h => h.elim
      · replace hb155 := cond_f hc156 hb155
        cases hb155
        refine TC.exit rfl fun a w e s => ?_
        exact ⟨v130, hs131, v134, e.sub (lk_of_allIn ⟨rfl, rfl, trivial⟩), s⟩
    · exact fun a w e s => ⟨.slice none 0 0, [], .slice none 0 0, e.sub (lk_of_allIn ⟨rfl, rfl, rfl, rfl, rfl, rfl, rfl, trivial⟩), s.mono fun _ s => (by replace s := Sat.nilS (e := 3) (sz := 1) (f := cI) s; replace s := Sat.nilSS (e := 22) (ee := 3) (sz := 1) (f := cI) s; exact Sat.by [9, 9, 9, 9, 9, 9, 9, 9, 9, 9] 10 0 (by kernel_rfl) s)⟩
    · rintro ⟨y149, y152⟩ rfl a w ⟨v146, hs147, v150, he, hs⟩
      dsimp only [Ctl.on] at hm
      refine TC.use ?_ he hs
      refine TC.k ?_
      refine TC.region ?_
      refine TO.s rfl rfl rfl (StepS.ldBA rfl (Ent.at 7 rfl) kaggB_75_3_true rfl rfl) ?_
      refine TO.pure (fun _ s => Rd.one (OwnS.rd (Ent.at 2 rfl)) s) fun oc220 => ?_
      refine TO.pure (fun _ s => Rd.one (RR.top (SS.rr (Ent.at 0 rfl))) s) fun oc221 => ?_
      refine TO.pure (fun _ s => Rd.one (OwnS.rd (Ent.at 1 rfl)) s) fun oc222 => ?_
      refine TO.stB (us := [v37, v146, v150]) 8 [v37, v146, v150] rfl rfl rfl ksizeB_75_3_true rfl rfl rfl (by intro u hu; simp only [List.mem_cons, List.not_mem_nil, or_false] at hu; rcases hu with rfl | rfl | rfl <;> first | exact oc220.1 | exact oc221.1 | exact oc222.1 | rfl) rfl ?_
      refine TO.code ?_
      cases hm
      refine TC.ret fun a w e s => ?_
      refine FRet.cell1 (P := Try.prog) (fn := Try.f37) e s rfl rfl (Ent.at 8 rfl) kaggB_75_3_true rfl ?_
      refine ⟨_, _, rfl, ⟨(v37), (v146), (hs147), (v150), rfl, rfl⟩, ?_⟩
      refine s.mono fun _ s => ?_
      replace s := Sat.front 1 rfl s
      replace s := Sat.front 1 rfl s
      replace s := Sat.front 2 rfl s
      replace s := Sat.erase 3 s
      replace s := Sat.erase 3 s
      replace s := Sat.erase 3 s
      replace s := Sat.erase 3 s
      replace s := Sat.erase 3 s
      replace s := Sat.erase 3 s
      replace s := Sat.erase 3 s
      exact s
    · rintro r rfl
      exact fun a w h => h.elim
  · rintro r rfl
    exact fun a w h => h.elim

set_option maxRecDepth 100000 in
theorem C10 {B : World} {L : List HP} {a0 : Int} {a1 : List (Int × Int × Int × Int)} {h1 : Value} {r0 : Bool} (e1 : Ent L (Rd 4 h1 (a1.map cTiiii))) (hm : F10 a0 a1 = some r0) {w : World} (st : St B L w) : Calls Try.prog 10 #[I a0, h1] w (fun e w' => (e = .returned (.bool r0) ∧ St B (L) w')) := by
  refine calls_of (N := 49) (L := L) (args := [I a0, h1]) Try.func10 rfl rfl rfl ?_ st
  dsimp only [F10] at hm
  refine TC.k ?_
  refine TC.region ?_
  refine TO.s rfl rfl rfl (StepS.assign rfl) ?_
  refine TO.code ?_
  refine TC.k ?_
  refine TC.region ?_
  refine TO.s rfl rfl rfl (StepS.move rfl) ?_
  refine TO.s rfl rfl rfl (StepS.move rfl) ?_
  obtain ⟨⟨r1, r2⟩, hc3, hm⟩ := bind_some hm
  refine TO.callO kcallB_36_true rfl rfl rfl (fun _ st => C36 e1 hc3 st) ?_
  rintro _ _ ⟨v4, v6, hs7, v9, rfl, rfl⟩
  refine TO.s rfl rfl rfl (StepS.move rfl) ?_
  refine TO.s rfl rfl rfl (StepS.extract rfl rfl) ?_
  refine TO.s rfl rfl rfl (StepS.extract rfl rfl) ?_
  refine TO.alloc kinfo_75_bind_zero_some_agg_slice_none_0_0_slice_none_0_0_slice_none_0_0 rfl rfl fun b11 => ?_
  refine TO.pure (fun _ s => Rd.one (OwnS.rd (Ent.at 1 rfl)) s) fun oc12 => ?_
  refine TO.pure (fun _ s => Rd.one (RR.top (SS.rr (Ent.at 2 rfl))) s) fun oc13 => ?_
  refine TO.pure (fun _ s => Rd.one (OwnS.rd (Ent.at 3 rfl)) s) fun oc14 => ?_
  refine TO.stB (us := [v4, v6, v9]) 0 [v4, v6, v9] rfl rfl rfl ksizeB_75_3_true rfl rfl rfl (by intro u hu; simp only [List.mem_cons, List.not_mem_nil, or_false] at hu; rcases hu with rfl | rfl | rfl <;> first | exact oc12.1 | exact oc13.1 | exact oc14.1 | rfl) rfl ?_
  refine TO.s rfl rfl rfl (StepS.assign rfl) ?_
  refine TO.code ?_
  refine TC.k ?_
  refine TC.region ?_
  refine TO.s rfl rfl rfl (StepS.move rfl) ?_
  refine TO.s rfl rfl rfl (StepS.move rfl) ?_
  refine TO.s rfl rfl rfl (StepS.lenm rfl e1.tl.tl.tl.tl ksliceB_23_106_4_true rfl) ?_
  obtain ⟨r15, hc16, hm⟩ := bind_some hm
  refine TO.q rfl rfl rfl (StepQ.call kcallB_21_true rfl rfl (fun _ st => C21  hc16 st)) ?_
  refine TO.s rfl rfl rfl (StepS.assign rfl) ?_
  refine TO.code ?_
  refine TC.k ?_
  refine TC.region ?_
  refine TO.s rfl rfl rfl (StepS.build (cs := [.slice none 0 0, .slice none 0 0, .slice none 0 0]) rfl (by kernel_rfl)) ?_
  refine TO.alloc kinfo_75_bind_zero_some_agg_slice_none_0_0_slice_none_0_0_slice_none_0_0 rfl rfl fun b17 => ?_
  refine TO.stB (us := [.slice none 0 0, .slice none 0 0, .slice none 0 0]) 0 [.slice none 0 0, .slice none 0 0, .slice none 0 0] rfl rfl rfl ksizeB_75_3_true rfl rfl rfl (by simp [Value.oneCell']) rfl ?_
  refine TO.code ?_
  refine TC.k ?_
  refine TC.k ?_
  refine TC.region ?_
  refine TO.s rfl rfl rfl (StepS.move rfl) ?_
  refine TO.s rfl rfl rfl (StepS.cmp rfl rfl rfl) ?_
  refine TO.code ?_
  obtain ⟨⟨y20, y24, y27⟩, hj28, hm⟩ := bind_some hm
  first | refine TC.cutM (fun a w => ∃ v18 : Value, ∃ v21 : Value, ∃ hs22 : List Value, ∃ v25 : Value, Mid 49 B [(5, .pointer (some ⟨b11, 0, none⟩)), (6, I r2), (7, I r15), (8, .pointer (some ⟨b17, 0, none⟩))] (OwnS 28 1 v18 (y20.map cI) :: SS 22 3 1 cI v21 hs22 (y24) :: OwnS 3 1 v25 (y27.map cI) :: Bx b17 75 [v18, v21, v25] :: Bx b11 75 [v4, v6, v9] :: OwnS 28 1 v4 (r1.1.map cI) :: SS 22 3 1 cI v6 hs7 (r1.2.1) :: OwnS 3 1 v9 (r1.2.2.map cI) :: L) a w) ?_ ?_ | refine TC.cutX (fun a w => ∃ v18 : Value, ∃ v21 : Value, ∃ hs22 : List Value, ∃ v25 : Value, Mid 49 B [(5, .pointer (some ⟨b11, 0, none⟩)), (6, I r2), (7, I r15), (8, .pointer (some ⟨b17, 0, none⟩))] (OwnS 28 1 v18 (y20.map cI) :: SS 22 3 1 cI v21 hs22 (y24) :: OwnS 3 1 v25 (y27.map cI) :: Bx b17 75 [v18, v21, v25] :: Bx b11 75 [v4, v6, v9] :: OwnS 28 1 v4 (r1.1.map cI) :: SS 22 3 1 cI v6 hs7 (r1.2.1) :: OwnS 3 1 v9 (r1.2.2.map cI) :: L) a w) ?_ ?_
  · refine TC.cond rfl (fun hc29 => ?_) (fun hc29 => ?_)
    · replace hj28 := cond_t hc29 hj28
      refine TC.region ?_
      refine TO.s rfl rfl rfl (StepS.move rfl) ?_
      refine TO.s rfl rfl rfl (StepS.move rfl) ?_
      obtain ⟨r30, hc31, hj28⟩ := bind_some hj28
      refine TO.callO kcallB_37_true rfl rfl rfl (fun _ st => C37 e1.tl.tl.tl.tl.tl hc31 st) ?_
      rintro _ _ ⟨v32, v34, hs35, v37, rfl, rfl⟩
      refine TO.pure (fun _ s => Rd.one (OwnS.rd (Ent.at 0 rfl)) s) fun oc39 => ?_
      refine TO.pure (fun _ s => Rd.one (RR.top (SS.rr (Ent.at 1 rfl))) s) fun oc40 => ?_
      refine TO.pure (fun _ s => Rd.one (OwnS.rd (Ent.at 2 rfl)) s) fun oc41 => ?_
      refine TO.stB (us := [v32, v34, v37]) 3 [v32, v34, v37] rfl rfl rfl ksizeB_75_3_true rfl rfl rfl (by intro u hu; simp only [List.mem_cons, List.not_mem_nil, or_false] at hu; rcases hu with rfl | rfl | rfl <;> first | exact oc39.1 | exact oc40.1 | exact oc41.1 | rfl) rfl ?_
      cases hj28
      refine TO.nil fun a w e s => ?_
      exact ⟨v32, v34, hs35, v37, e.sub (lk_of_allIn ⟨rfl, rfl, rfl, rfl, trivial⟩), s⟩
    · replace hj28 := cond_f hc29 hj28
      cases hj28
      refine TC.skip fun a w e s => ?_
      exact ⟨.slice none 0 0, .slice none 0 0, [], .slice none 0 0, e.sub (lk_of_allIn ⟨rfl, rfl, rfl, rfl, trivial⟩), s.mono fun _ s => (by replace s := Sat.nilS (e := 3) (sz := 1) (f := cI) s; replace s := Sat.nilSS (e := 22) (ee := 3) (sz := 1) (f := cI) s; replace s := Sat.nilS (e := 28) (sz := 1) (f := cI) s; exact Sat.by [7, 7, 7, 7, 7, 7, 7, 7] 8 0 (by kernel_rfl) s)⟩
  · intro a w ⟨v18, v21, hs22, v25, he, hs⟩
    refine TC.use ?_ he hs
    refine TC.k ?_
    refine TC.region ?_
    refine TO.s rfl rfl rfl (StepS.move rfl) ?_
    refine TO.s rfl rfl rfl (StepS.move rfl) ?_
    refine TO.s rfl rfl rfl (StepS.cmp rfl rfl rfl) ?_
    refine TO.s rfl rfl rfl (StepS.move rfl) ?_
    obtain ⟨b43, hj44, hm⟩ := bind_some hm
    refine TO.mid1 6 34 (.bool b43) ?_ ?_
    · refine bcase ((r2 == r15)) (fun hb42 => ?_) (fun hb42 => ?_)
      · replace hj44 := cond_t hb42 hj44
        refine TO.sw rfl rfl rfl hb42 rfl rfl (StepS.fld rfl kfieldB_75_0_0_true) ?_
        refine TO.sw rfl rfl rfl hb42 rfl rfl (StepS.ldB rfl (Ent.at 4 rfl) kscalB_24_true rfl) ?_
        refine TO.sw rfl rfl rfl hb42 rfl rfl (StepS.fld rfl kfieldB_75_0_0_true) ?_
        refine TO.sw rfl rfl rfl hb42 rfl rfl (StepS.ldB rfl (Ent.at 3 rfl) kscalB_24_true rfl) ?_
        obtain ⟨r45, hc46, hj44⟩ := bind_some hj44
        refine TO.qw rfl rfl rfl hb42 rfl rfl (StepQ.call kcallB_18_true rfl rfl (fun _ st => C18 (OwnS.rd (Ent.at 5 rfl)) (OwnS.rd (Ent.at 0 rfl)) hc46 st)) ?_
        cases hj44
        refine TO.s rfl rfl rfl (StepS.pickT rfl hb42 rfl) ?_
        exact TO.up1 6 0 rfl rfl rfl rfl
      · replace hj44 := cond_f hb42 hj44
        cases hj44
        refine TO.skip rfl rfl rfl (skipF hb42) rfl rfl ?_
        refine TO.skip rfl rfl rfl (skipF hb42) rfl rfl ?_
        refine TO.skip rfl rfl rfl (skipF hb42) rfl rfl ?_
        refine TO.skip rfl rfl rfl (skipF hb42) rfl rfl ?_
        refine TO.skip rfl rfl rfl (skipF hb42) rfl rfl ?_
        refine TO.s rfl rfl rfl (StepS.pickF rfl hb42 rfl) ?_
        exact TO.up1 6 0 rfl rfl rfl rfl
    refine TO.s rfl rfl rfl (StepS.move rfl) ?_
    obtain ⟨b48, hj49, hm⟩ := bind_some hm
    refine TO.mid1 6 41 (.bool b48) ?_ ?_
    · refine bcase (b43) (fun hb47 => ?_) (fun hb47 => ?_)
      · replace hj49 := cond_t hb47 hj49
        refine TO.sw rfl rfl rfl hb47 rfl rfl (StepS.fld rfl kfieldB_75_1_1_true) ?_
        refine TO.sw rfl rfl rfl hb47 rfl rfl (StepS.ldB rfl (Ent.at 4 rfl) kscalB_50_true rfl) ?_
        refine TO.sw rfl rfl rfl hb47 rfl rfl (StepS.fld rfl kfieldB_75_1_1_true) ?_
        refine TO.sw rfl rfl rfl hb47 rfl rfl (StepS.ldB rfl (Ent.at 3 rfl) kscalB_50_true rfl) ?_
        obtain ⟨r50, hc51, hj49⟩ := bind_some hj49
        refine TO.qw rfl rfl rfl hb47 rfl rfl (StepQ.call kcallB_28_true rfl rfl (fun _ st => C28 (SS.rr (Ent.at 6 rfl)) (SS.rr (Ent.at 1 rfl)) hc51 st)) ?_
        cases hj49
        refine TO.s rfl rfl rfl (StepS.pickT rfl hb47 rfl) ?_
        exact TO.up1 6 0 rfl rfl rfl rfl
      · replace hj49 := cond_f hb47 hj49
        cases hj49
        refine TO.skip rfl rfl rfl (skipF hb47) rfl rfl ?_
        refine TO.skip rfl rfl rfl (skipF hb47) rfl rfl ?_
        refine TO.skip rfl rfl rfl (skipF hb47) rfl rfl ?_
        refine TO.skip rfl rfl rfl (skipF hb47) rfl rfl ?_
        refine TO.skip rfl rfl rfl (skipF hb47) rfl rfl ?_
        refine TO.s rfl rfl rfl (StepS.pickF rfl hb47 rfl) ?_
        exact TO.up1 6 0 rfl rfl rfl rfl
    refine TO.s rfl rfl rfl (StepS.move rfl) ?_
    obtain ⟨b53, hj54, hm⟩ := bind_some hm
    refine TO.mid1 6 48 (.bool b53) ?_ ?_
    · refine bcase (b48) (fun hb52 => ?_) (fun hb52 => ?_)
      · replace hj54 := cond_t hb52 hj54
        refine TO.sw rfl rfl rfl hb52 rfl rfl (StepS.fld rfl kfieldB_75_2_2_true) ?_
        refine TO.sw rfl rfl rfl hb52 rfl rfl (StepS.ldB rfl (Ent.at 4 rfl) kscalB_22_true rfl) ?_
        refine TO.sw rfl rfl rfl hb52 rfl rfl (StepS.fld rfl kfieldB_75_2_2_true) ?_
        refine TO.sw rfl rfl rfl hb52 rfl rfl (StepS.ldB rfl (Ent.at 3 rfl) kscalB_22_true rfl) ?_
        obtain ⟨r55, hc56, hj54⟩ := bind_some hj54
        refine TO.qw rfl rfl rfl hb52 rfl rfl (StepQ.call kcallB_25_true rfl rfl (fun _ st => C25 (OwnS.rd (Ent.at 7 rfl)) (OwnS.rd (Ent.at 2 rfl)) hc56 st)) ?_
        cases hj54
        refine TO.s rfl rfl rfl (StepS.pickT rfl hb52 rfl) ?_
        exact TO.up1 6 0 rfl rfl rfl rfl
      · replace hj54 := cond_f hb52 hj54
        cases hj54
        refine TO.skip rfl rfl rfl (skipF hb52) rfl rfl ?_
        refine TO.skip rfl rfl rfl (skipF hb52) rfl rfl ?_
        refine TO.skip rfl rfl rfl (skipF hb52) rfl rfl ?_
        refine TO.skip rfl rfl rfl (skipF hb52) rfl rfl ?_
        refine TO.skip rfl rfl rfl (skipF hb52) rfl rfl ?_
        refine TO.s rfl rfl rfl (StepS.pickF rfl hb52 rfl) ?_
        exact TO.up1 6 0 rfl rfl rfl rfl
    refine TO.s rfl rfl rfl (StepS.assign rfl) ?_
    refine TO.code ?_
    cases hm
    refine TC.ret fun a w e s => ?_
    refine FRet.mk1 (P := Try.prog) (fn := Try.f10) (t := 4) e rfl rfl ?_
    exact ⟨rfl, s.mono fun _ => Sat.dropN 8⟩
end Go.Proofs.Ythfkdepcnhhepaa
