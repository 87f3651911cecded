/-
  The walks: each Go function returns what its model says. Written by a program (gen.py).
-/
import Derived.Test.YtmfidlalejdikaaProg
import Derived.KernelRfl
import Derived.Test.YtmfidlalejdikaaAW
import Derived.Test.YtmfidlalejdikaaCM
namespace Go.Proofs.Ytmfidlalejdikaa
open Go Go.Bk
set_option linter.unusedVariables false
set_option linter.unnecessarySimpa false
theorem kunderlying_60_some_int_u32 : Try.prog.underlying 60 = some (.int .u32) := by kernel_rfl
theorem kmapGB_68_60_4_true : mapGB Try.prog 68 60 4 = true := by kernel_rfl
theorem kcallB_31_true : callB Try.prog 31 = true := by kernel_rfl
theorem kcallB_30_true : callB Try.prog 30 = true := by kernel_rfl

set_option maxRecDepth 100000 in
theorem C30 {B : World} {L : List HP} {a0 : Int} {a1 : List (Int × Int × Int)} {h1 : Value} {r0 : Int} {r1 : Int} (e1 : Ent L (Rd 3 h1 (a1.map cTiii))) (hm : F30 a0 a1 = some (r0, r1)) {w : World} (st : St B L w) : Calls Try.prog 30 #[I a0, h1] w (fun e w' => (e = .returned (.tuple #[I r0, I r1]) ∧ St B (L) w')) := by
  refine calls_of (N := 65) (L := L) (args := [I a0, h1]) Try.func30 rfl rfl rfl ?_ st
  dsimp only [F30] at hm
  refine TC.k ?_
  refine TC.region ?_
  refine TO.s rfl rfl rfl (StepS.assign rfl) ?_
  refine TO.s rfl rfl rfl (StepS.assign rfl) ?_
  refine TO.code ?_
  refine TC.k ?_
  refine TC.k ?_
  refine TC.region ?_
  refine TO.s rfl rfl rfl (StepS.move rfl) ?_
  refine TO.s rfl rfl rfl (StepS.move rfl) ?_
  obtain ⟨r1, hc2, hm⟩ := bind_some hm
  refine TO.q rfl rfl rfl (StepQ.call kcallB_15_true rfl rfl (fun _ st => C15 e1 hc2 st)) ?_
  refine TO.s rfl rfl rfl (StepS.assign rfl) ?_
  refine TO.code ?_
  refine TC.k ?_
  refine TC.region ?_
  refine TO.s rfl rfl rfl (StepS.move rfl) ?_
  refine TO.s rfl rfl rfl (StepS.cmp rfl rfl rfl) ?_
  refine TO.code ?_
  refine TC.cond rfl (fun hc3 => ?_) (fun hc3 => ?_)
  · replace hm := cond_t hc3 hm
    refine TC.k ?_
    refine TC.region ?_
    refine TO.s rfl rfl rfl (StepS.move rfl) ?_
    refine TO.s rfl rfl rfl (StepS.assign rfl) ?_
    refine TO.s rfl rfl rfl (StepS.assign rfl) ?_
    refine TO.code ?_
    cases hm
    refine TC.ret fun a w e s => ?_
    refine FRet.mk2 (P := Try.prog) (fn := Try.f30) (t := 4) (u := 5) e rfl rfl rfl ?_
    exact ⟨rfl, s.mono fun _ => Sat.dropN 0⟩
  · replace hm := cond_f hc3 hm
    refine TC.skipk ?_
    refine TC.k ?_
    refine TC.region ?_
    refine TO.s rfl rfl rfl (StepS.move rfl) ?_
    refine TO.s rfl rfl rfl (StepS.move rfl) ?_
    obtain ⟨r4, hc5, hm⟩ := bind_some hm
    refine TO.callO kcallB_40_true rfl rfl rfl (fun _ st => C40 e1 hc5 st) ?_
    rintro v6 _ ⟨_, rfl, rfl⟩
    refine TO.s rfl rfl rfl (StepS.assign rfl) ?_
    refine TO.code ?_
    refine TC.k ?_
    refine TC.region ?_
    refine TO.mkMF (kf := (fun k : BitVec 32 => U k)) (vf := (fun x : Bool => .bool x)) rfl fun r8 => ?_
    refine TO.insF (k := (0#32)) (v := true) 0 kmapGB_68_60_4_true (KeyOk.u32 kunderlying_60_some_int_u32) rfl rfl rfl rfl ?_
    refine TO.s rfl rfl rfl (StepS.move rfl) ?_
    refine TO.s rfl rfl rfl (StepS.assign rfl) ?_
    refine TO.code ?_
    refine TC.k ?_
    refine TC.region ?_
    refine TO.s rfl rfl rfl (StepS.assign rfl) ?_
    refine TO.code ?_
    refine TC.k ?_
    obtain ⟨o19, hw20, hm⟩ := bind_some hm
    refine TC.loop hw20 (fun (y12, x13) => fun a w => ∃ r11 : Nat, Mid 65 B [(7, v6), (8, .map (some r11)), (9, I x13)] (MF (fun k : BitVec 32 => U k) (fun x : Bool => .bool x) r11 (y12) :: OwnS 60 1 v6 (r4.map cU) :: L) a w) (fun x18 => fun a w => Mid 65 B [(9, I x18)] (OwnS 60 1 v6 (r4.map cU) :: L) a w) (fun (_ : Unit) _ _ => False) ?_ ?_ ?_ ?_
    · rintro ⟨y12, x13⟩ o19r hb21 a w ⟨r11, he, hs⟩
      dsimp only [F30_L0] at hb21
      refine TC.use ?_ he hs
      refine TC.k ?_
      refine TC.k ?_
      refine TC.region ?_
      refine TO.s rfl rfl rfl (StepS.move rfl) ?_
      refine TO.s rfl rfl rfl (StepS.lenF rfl (Ent.at 0 rfl) kmapGB_68_60_4_true rfl) ?_
      refine TO.s rfl rfl rfl (StepS.cmp rfl rfl rfl) ?_
      refine TO.code ?_
      refine TC.cond rfl (fun hc22 => ?_) (fun hc22 => ?_)
      · replace hb21 := cond_t hc22 hb21
        refine TC.skipk ?_
        refine TC.block ?_
        refine TC.k ?_
        refine TC.region ?_
        refine TO.s rfl rfl rfl (StepS.move rfl) ?_
        refine TO.s rfl rfl rfl (StepS.move rfl) ?_
        refine TO.s rfl rfl rfl (StepS.lenF rfl (Ent.at 0 rfl) kmapGB_68_60_4_true rfl) ?_
        refine TO.s rfl rfl rfl (StepS.ari rfl rfl rfl) ?_
        refine TO.s rfl rfl rfl (StepS.assign rfl) ?_
        refine TO.code ?_
        refine TC.k ?_
        refine TC.region ?_
        refine TO.mkMF (kf := (fun k : BitVec 32 => U k)) (vf := (fun x : Bool => .bool x)) rfl fun r23 => ?_
        refine TO.s rfl rfl rfl (StepS.assign rfl) ?_
        refine TO.code ?_
        refine TC.k ?_
        refine TC.k ?_
        refine TC.region ?_
        refine TO.s rfl rfl rfl (StepS.move rfl) ?_
        refine TO.ghost (fun _ s => Sat.front 1 rfl s) ?_
        refine TO.range kmapGB_68_60_4_true rfl rfl fun it25 => ?_
        refine TO.code ?_
        obtain ⟨o31, hw32, hb21⟩ := bind_some hb21
        refine TC.rangeM hw32 (fun q26 y29 => fun a w => Mid 65 B [(7, v6), (9, I (w64 (x13 + (mlen y12 : Int)))), (10, .map (some r23)), (34, .pointer (some ⟨it25, 0, none⟩))] (MFR (fun k : BitVec 32 => U k) (fun x : Bool => .bool x) it25 r11 (y12) q26 :: MF (fun k : BitVec 32 => U k) (fun x : Bool => .bool x) r23 (y29) :: OwnS 60 1 v6 (r4.map cU) :: L) a w) (fun y29 => fun a w => Mid 65 B [(7, v6), (9, I (w64 (x13 + (mlen y12 : Int)))), (10, .map (some r23))] (MF (fun k : BitVec 32 => U k) (fun x : Bool => .bool x) r11 (y12) :: MF (fun k : BitVec 32 => U k) (fun x : Bool => .bool x) r23 (y29) :: OwnS 60 1 v6 (r4.map cU) :: L) a w) (fun (_ : Unit) _ _ => False) ?_ ?_ ?_ ?_
        · rintro q26 y29 hb33r a w ⟨he, hs⟩
          refine TC.use ?_ he hs
          refine TC.k ?_
          refine TC.region ?_
          refine TO.next 0 rfl rfl rfl (fun hd36 => ?_) (fun k27 v28 hk34 hn35 => ?_)
          · refine TO.s rfl rfl rfl (StepS.extract rfl rfl) ?_
            refine TO.code ?_
            refine TC.k ?_
            refine TC.condF rfl ?_
            refine TC.exit rfl fun a w e s => ?_
            exact ⟨hd36, e.sub (lk_of_allIn ⟨rfl, rfl, rfl, trivial⟩), s.mono fun _ s => (by replace s := Sat.front 0 rfl s; replace s := Sat.unrange s; exact s)⟩
          · refine TO.s rfl rfl rfl (StepS.extract rfl rfl) ?_
            refine TO.code ?_
            obtain ⟨_, hb330⟩ := hb33r k27 v28 hk34 hn35
            have hb33 := hb330
            refine TC.rmore (Pre := fun q26 y29 => fun a w => Mid 65 B [(7, v6), (9, I (w64 (x13 + (mlen y12 : Int)))), (10, .map (some r23)), (34, .pointer (some ⟨it25, 0, none⟩))] (MFR (fun k : BitVec 32 => U k) (fun x : Bool => .bool x) it25 r11 (y12) q26 :: MF (fun k : BitVec 32 => U k) (fun x : Bool => .bool x) r23 (y29) :: OwnS 60 1 v6 (r4.map cU) :: L) a w) (Ret := fun (_ : Unit) _ _ => False) 2 hk34 hn35 hb330 ?_
            dsimp only [F30_L1] at hb33
            refine TC.k ?_
            refine TC.condT rfl ?_
            refine TC.skipk ?_
            refine TC.block ?_
            refine TC.k ?_
            refine TC.region ?_
            refine TO.s rfl rfl rfl (StepS.entryF rfl (Ent.at 0 rfl)) ?_
            refine TO.s rfl rfl rfl (StepS.extract rfl rfl) ?_
            refine TO.s rfl rfl rfl (StepS.assign rfl) ?_
            refine TO.code ?_
            refine TC.k ?_
            refine TC.region ?_
            refine TO.s rfl rfl rfl (StepS.move rfl) ?_
            refine TO.s rfl rfl rfl (StepS.lenm rfl (OwnS.rd (Ent.at 2 rfl)) ksliceB_61_60_1_true rfl) ?_
            refine TO.s rfl rfl rfl (StepS.move rfl) ?_
            refine TO.code ?_
            obtain ⟨o42, hw43, hb33⟩ := bind_some hb33
            refine TC.loop hw43 (fun (y37, x38) => fun a w => Mid 65 B [(7, v6), (9, I (w64 (x13 + (mlen y12 : Int)))), (10, .map (some r23)), (11, U k27), (34, .pointer (some ⟨it25, 0, none⟩)), (39, v6), (40, I (r4.length : Int)), (41, I x38)] (MFR (fun k : BitVec 32 => U k) (fun x : Bool => .bool x) it25 r11 (y12) (q26 ++ [(k27, v28)]) :: MF (fun k : BitVec 32 => U k) (fun x : Bool => .bool x) r23 (y37) :: OwnS 60 1 v6 (r4.map cU) :: L) a w) (fun y41 => fun a w => Mid 65 B [(7, v6), (9, I (w64 (x13 + (mlen y12 : Int)))), (10, .map (some r23)), (34, .pointer (some ⟨it25, 0, none⟩))] (MFR (fun k : BitVec 32 => U k) (fun x : Bool => .bool x) it25 r11 (y12) (q26 ++ [(k27, v28)]) :: MF (fun k : BitVec 32 => U k) (fun x : Bool => .bool x) r23 (y41) :: OwnS 60 1 v6 (r4.map cU) :: L) a w) (fun (_ : Unit) _ _ => False) ?_ ?_ ?_ ?_
            · rintro ⟨y37, x38⟩ o42r hb44 a w ⟨he, hs⟩
              dsimp only [F30_L2] at hb44
              refine TC.use ?_ he hs
              refine TC.k ?_
              refine TC.region ?_
              refine TO.s rfl rfl rfl (StepS.cmp rfl rfl rfl) ?_
              refine TO.code ?_
              refine TC.k ?_
              refine TC.cond rfl (fun hc45 => ?_) (fun hc45 => ?_)
              · replace hb44 := cond_t hc45 hb44
                refine TC.skipk ?_
                refine TC.k ?_
                obtain ⟨y46, hj47, hb44⟩ := bind_some hb44
                first | refine TC.cutM (fun a w => Mid 65 B [(7, v6), (9, I (w64 (x13 + (mlen y12 : Int)))), (10, .map (some r23)), (11, U k27), (34, .pointer (some ⟨it25, 0, none⟩)), (39, v6), (40, I (r4.length : Int)), (41, I x38)] (MFR (fun k : BitVec 32 => U k) (fun x : Bool => .bool x) it25 r11 (y12) (q26 ++ [(k27, v28)]) :: MF (fun k : BitVec 32 => U k) (fun x : Bool => .bool x) r23 (y46) :: OwnS 60 1 v6 (r4.map cU) :: L) a w) ?_ ?_ | refine TC.cutX (fun a w => Mid 65 B [(7, v6), (9, I (w64 (x13 + (mlen y12 : Int)))), (10, .map (some r23)), (11, U k27), (34, .pointer (some ⟨it25, 0, none⟩)), (39, v6), (40, I (r4.length : Int)), (41, I x38)] (MFR (fun k : BitVec 32 => U k) (fun x : Bool => .bool x) it25 r11 (y12) (q26 ++ [(k27, v28)]) :: MF (fun k : BitVec 32 => U k) (fun x : Bool => .bool x) r23 (y46) :: OwnS 60 1 v6 (r4.map cU) :: L) a w) ?_ ?_
                · refine TC.block ?_
                  refine TC.k ?_
                  refine TC.region ?_
                  refine TO.s rfl rfl rfl (StepS.move rfl) ?_
                  obtain ⟨x48, hx49, hj47⟩ := bind_some hj47
                  refine TO.s rfl rfl rfl (StepS.idx rfl rfl (OwnS.rd (Ent.at 2 rfl)) ksliceB_61_60_1_true (idx_spec hx49).1 (idxm_lt hx49)) ?_
                  refine TO.s rfl rfl rfl (StepS.ld0 rfl (OwnS.rd (Ent.at 2 rfl)) kscalB_60_true rfl (idxm hx49) rfl) ?_
                  refine TO.s rfl rfl rfl (StepS.assign rfl) ?_
                  refine TO.s rfl rfl rfl (StepS.assign rfl) ?_
                  refine TO.code ?_
                  refine TC.k ?_
                  refine TC.region ?_
                  refine TO.s rfl rfl rfl (StepS.move rfl) ?_
                  refine TO.s rfl rfl rfl (StepS.move rfl) ?_
                  obtain ⟨k50, hk51, hj47⟩ := bind_some hj47
                  refine TO.s rfl rfl rfl (StepS.shrk rfl rfl hk51) ?_
                  refine TO.s rfl rfl rfl (StepS.bitU (n := 1#32) rfl rfl rfl) ?_
                  refine TO.s rfl rfl rfl (StepS.cmpU (n := 0#32) rfl rfl rfl) ?_
                  refine TO.s rfl rfl rfl (StepS.move rfl) ?_
                  refine TO.mid1 5 56 (.bool ((((k27 >>> k50) &&& (1#32)) == (0#32)) && ((x48 &&& ~~~k27) == (0#32)))) ?_ ?_
                  · refine bcase ((((k27 >>> k50) &&& (1#32)) == (0#32))) (fun hb52 => ?_) (fun hb52 => ?_)
                    · refine TO.sw rfl rfl rfl hb52 rfl rfl (StepS.move rfl) ?_
                      refine TO.sw rfl rfl rfl hb52 rfl rfl (StepS.move rfl) ?_
                      refine TO.sw rfl rfl rfl hb52 rfl rfl (StepS.bitU rfl rfl rfl) ?_
                      refine TO.sw rfl rfl rfl hb52 rfl rfl (StepS.cmpU (n := 0#32) rfl rfl rfl) ?_
                      refine TO.s rfl rfl rfl (StepS.pickT rfl hb52 rfl) ?_
                      exact TO.up1 5 0 rfl rfl (by rw [hb52]; rfl) rfl
                    · refine TO.skip rfl rfl rfl (skipF hb52) rfl rfl ?_
                      refine TO.skip rfl rfl rfl (skipF hb52) rfl rfl ?_
                      refine TO.skip rfl rfl rfl (skipF hb52) rfl rfl ?_
                      refine TO.skip rfl rfl rfl (skipF hb52) rfl rfl ?_
                      refine TO.s rfl rfl rfl (StepS.pickF rfl hb52 rfl) ?_
                      exact TO.up1 5 0 rfl rfl (by rw [hb52]; rfl) rfl
                  refine TO.code ?_
                  refine TC.cond rfl (fun hc53 => ?_) (fun hc53 => ?_)
                  · replace hj47 := cond_t hc53 hj47
                    refine TC.region ?_
                    refine TO.s rfl rfl rfl (StepS.move rfl) ?_
                    refine TO.s rfl rfl rfl (StepS.move rfl) ?_
                    refine TO.s rfl rfl rfl (StepS.move rfl) ?_
                    obtain ⟨k54, hk55, hj47⟩ := bind_some hj47
                    refine TO.s rfl rfl rfl (StepS.shlk (m := 1#32) rfl rfl hk55) ?_
                    refine TO.s rfl rfl rfl (StepS.bitU rfl rfl rfl) ?_
                    refine TO.msetF (k := (k27 ||| ((1#32) <<< k54))) (v := true) 1 kmapGB_68_60_4_true (KeyOk.u32 kunderlying_60_some_int_u32) rfl rfl rfl rfl ?_
                    cases hj47
                    refine TO.nil fun a w e s => ?_
                    exact ⟨e.sub (lk_of_allIn ⟨rfl, rfl, rfl, rfl, rfl, rfl, rfl, rfl, trivial⟩), s⟩
                  · replace hj47 := cond_f hc53 hj47
                    cases hj47
                    refine TC.skip fun a w e s => ?_
                    exact ⟨e.sub (lk_of_allIn ⟨rfl, rfl, rfl, rfl, rfl, rfl, rfl, rfl, trivial⟩), s⟩
                · intro a w ⟨he, hs⟩
                  refine TC.use ?_ he hs
                  refine TC.region ?_
                  refine TO.s rfl rfl rfl (StepS.ari rfl rfl rfl) ?_
                  refine TO.s rfl rfl rfl (StepS.move rfl) ?_
                  cases hb44
                  refine TO.nil fun a w e s => ?_
                  exact ⟨e.sub (lk_of_allIn ⟨rfl, rfl, rfl, rfl, rfl, rfl, rfl, rfl, trivial⟩), s⟩
              · replace hb44 := cond_f hc45 hb44
                cases hb44
                refine TC.exit rfl fun a w e s => ?_
                exact ⟨e.sub (lk_of_allIn ⟨rfl, rfl, rfl, rfl, trivial⟩), s⟩
            · exact fun a w e s => ⟨e.sub (lk_of_allIn ⟨rfl, rfl, rfl, rfl, rfl, rfl, rfl, rfl, trivial⟩), s⟩
            · rintro y41 rfl a w ⟨he, hs⟩
              dsimp only [Ctl.on] at hb33
              cases hb33
              have e := he; have s := hs
              exact ⟨e.sub (lk_of_allIn ⟨rfl, rfl, rfl, rfl, trivial⟩), s⟩
            · rintro r rfl
              exact fun a w h => h.elim
        · exact fun a w e s => ⟨e.sub (lk_of_allIn ⟨rfl, rfl, rfl, rfl, trivial⟩), s⟩
        · rintro y29 rfl a w ⟨he, hs⟩
          dsimp only [Ctl.onN] at hb21
          refine TC.use ?_ he hs
          refine TC.region ?_
          refine TO.s rfl rfl rfl (StepS.move rfl) ?_
          refine TO.s rfl rfl rfl (StepS.assign rfl) ?_
          cases hb21
          refine TO.nil fun a w e s => ?_
          exact ⟨r23, e.sub (lk_of_allIn ⟨rfl, rfl, rfl, trivial⟩), s.mono fun _ => Sat.dropN 1⟩
        · rintro r rfl
          exact fun a w h => h.elim
      · replace hb21 := cond_f hc22 hb21
        cases hb21
        refine TC.exit rfl fun a w e s => ?_
        exact ⟨e.sub (lk_of_allIn ⟨rfl, trivial⟩), s.mono fun _ => Sat.dropN 1⟩
    · exact fun a w e s => ⟨r8, e.sub (lk_of_allIn ⟨rfl, rfl, rfl, trivial⟩), s⟩
    · rintro x18 rfl a w ⟨he, hs⟩
      dsimp only [Ctl.on] at hm
      refine TC.use ?_ he hs
      refine TC.k ?_
      refine TC.region ?_
      refine TO.s rfl rfl rfl (StepS.move rfl) ?_
      refine TO.s rfl rfl rfl (StepS.assign rfl) ?_
      refine TO.s rfl rfl rfl (StepS.assign rfl) ?_
      refine TO.code ?_
      cases hm
      refine TC.ret fun a w e s => ?_
      refine FRet.mk2 (P := Try.prog) (fn := Try.f30) (t := 4) (u := 5) e rfl rfl rfl ?_
      exact ⟨rfl, s.mono fun _ => Sat.dropN 1⟩
    · rintro r rfl
      exact fun a w h => h.elim

set_option maxRecDepth 100000 in
theorem C31_B {B : World} (rec31 : Int → (List (Int × Int × Int)) → (List Int) → Option (Int)) (ih : ∀ {L : List HP} {a0 : Int} {a1 : List (Int × Int × Int)} {a2 : List Int} {h1 : Value} {h2 : Value} {r0 : Int} (e1 : Ent L (Rd 3 h1 (a1.map cTiii))) (e2 : Ent L (Rd 1 h2 (a2.map cI))) (hm : rec31 a0 a1 a2 = some r0) {w : World} (st : St B L w), Calls Try.prog 31 #[I a0, h1, h2] w (fun e w' => (e = .returned (I r0) ∧ St B (L) w'))) {L : List HP} {a0 : Int} {a1 : List (Int × Int × Int)} {a2 : List Int} {h1 : Value} {h2 : Value} {r0 : Int} (e1 : Ent L (Rd 3 h1 (a1.map cTiii))) (e2 : Ent L (Rd 1 h2 (a2.map cI))) (hm : F31_B rec31 a0 a1 a2 = some r0) {w : World} (st : St B L w) : Calls Try.prog 31 #[I a0, h1, h2] w (fun e w' => (e = .returned (I r0) ∧ St B (L) w')) := by
  refine calls_of (N := 62) (L := L) (args := [I a0, h1, h2]) Try.func31 rfl rfl rfl ?_ st
  dsimp only [F31_B] at hm
  refine TC.k ?_
  refine TC.region ?_
  refine TO.s rfl rfl rfl (StepS.assign rfl) ?_
  refine TO.code ?_
  refine TC.k ?_
  refine TC.k ?_
  refine TC.region ?_
  refine TO.s rfl rfl rfl (StepS.move rfl) ?_
  refine TO.s rfl rfl rfl (StepS.lenm rfl e2 ksliceB_34_3_1_true rfl) ?_
  refine TO.s rfl rfl rfl (StepS.move rfl) ?_
  refine TO.s rfl rfl rfl (StepS.cmp rfl rfl rfl) ?_
  refine TO.code ?_
  refine TC.cond rfl (fun hc1 => ?_) (fun hc1 => ?_)
  · replace hm := cond_t hc1 hm
    refine TC.k ?_
    refine TC.region ?_
    refine TO.s rfl rfl rfl (StepS.move rfl) ?_
    refine TO.s rfl rfl rfl (StepS.move rfl) ?_
    refine TO.s rfl rfl rfl (StepS.move rfl) ?_
    obtain ⟨⟨r2, r3⟩, hc4, hm⟩ := bind_some hm
    refine TO.callO kcallB_35_true rfl rfl rfl (fun _ st => C35 e1 e2 hc4 st) ?_
    rintro _ _ ⟨v5, rfl, rfl⟩
    refine TO.s rfl rfl rfl (StepS.move rfl) ?_
    refine TO.s rfl rfl rfl (StepS.extract rfl rfl) ?_
    refine TO.s rfl rfl rfl (StepS.extract rfl rfl) ?_
    refine TO.s rfl rfl rfl (StepS.assign rfl) ?_
    refine TO.s rfl rfl rfl (StepS.assign rfl) ?_
    refine TO.code ?_
    refine TC.k ?_
    refine TC.k ?_
    refine TC.region ?_
    refine TO.s rfl rfl rfl (StepS.move rfl) ?_
    refine TO.s rfl rfl rfl (StepS.move rfl) ?_
    obtain ⟨b8, hj9, hm⟩ := bind_some hm
    refine TO.mid1 4 30 (.bool b8) ?_ ?_
    · refine bcase (r3) (fun hb7 => ?_) (fun hb7 => ?_)
      · replace hj9 := cond_t hb7 hj9
        refine TO.sw rfl rfl rfl hb7 rfl rfl (StepS.move rfl) ?_
        refine TO.sw rfl rfl rfl hb7 rfl rfl (StepS.move rfl) ?_
        obtain ⟨r10, hc11, hj9⟩ := bind_some hj9
        refine TO.qw rfl rfl rfl hb7 rfl rfl (StepQ.call kcallB_36_true rfl rfl (fun _ st => C36 e1.tl (OwnS.rd (Ent.at 0 rfl)) hc11 st)) ?_
        cases hj9
        refine TO.s rfl rfl rfl (StepS.pickT rfl hb7 rfl) ?_
        exact TO.up1 4 0 rfl rfl rfl rfl
      · replace hj9 := cond_f hb7 hj9
        cases hj9
        refine TO.skip rfl rfl rfl (skipF hb7) rfl rfl ?_
        refine TO.skip rfl rfl rfl (skipF hb7) rfl rfl ?_
        refine TO.skip rfl rfl rfl (skipF hb7) rfl rfl ?_
        refine TO.s rfl rfl rfl (StepS.pickF rfl hb7 rfl) ?_
        exact TO.up1 4 0 rfl rfl rfl rfl
    refine TO.code ?_
    refine TC.cond rfl (fun hc12 => ?_) (fun hc12 => ?_)
    · replace hm := cond_t hc12 hm
      refine TC.k ?_
      refine TC.region ?_
      refine TO.s rfl rfl rfl (StepS.assign rfl) ?_
      refine TO.code ?_
      cases hm
      refine TC.ret fun a w e s => ?_
      refine FRet.mk1 (P := Try.prog) (fn := Try.f31) (t := 6) e rfl rfl ?_
      exact ⟨rfl, s.mono fun _ => Sat.dropN 1⟩
    · replace hm := cond_f hc12 hm
      refine TC.skipk ?_
      refine TC.k ?_
      refine TC.region ?_
      refine TO.s rfl rfl rfl (StepS.assign rfl) ?_
      refine TO.code ?_
      cases hm
      refine TC.ret fun a w e s => ?_
      refine FRet.mk1 (P := Try.prog) (fn := Try.f31) (t := 6) e rfl rfl ?_
      exact ⟨rfl, s.mono fun _ => Sat.dropN 1⟩
  · replace hm := cond_f hc1 hm
    refine TC.skipk ?_
    refine TC.k ?_
    refine TC.region ?_
    refine TO.s rfl rfl rfl (StepS.assign rfl) ?_
    refine TO.code ?_
    refine TC.k ?_
    refine TC.region ?_
    refine TO.s rfl rfl rfl (StepS.assign rfl) ?_
    refine TO.code ?_
    obtain ⟨o17, hw18, hm⟩ := bind_some hm
    refine TC.loop hw18 (fun (x13, x14) => fun a w => Mid 62 B [(0, I a0), (1, h1), (2, h2), (9, I x13), (10, I x14)] (L) a w) (fun _ => fun a w => Mid 62 B [(0, I a0), (1, h1), (2, h2), (6, I 0), (9, I 0), (10, I 0)] (L) a w) (fun r0 => FRet Try.prog Try.f31 (fun e w' => (e = .returned (I r0) ∧ St B (L) w'))) ?_ ?_ ?_ ?_
    · rintro ⟨x13, x14⟩ o17r hb19 a w ⟨he, hs⟩
      dsimp only [F31_L0] at hb19
      refine TC.use ?_ he hs
      refine TC.k ?_
      refine TC.block ?_
      refine TC.k ?_
      refine TC.region ?_
      refine TO.s rfl rfl rfl (StepS.assign rfl) ?_
      refine TO.code ?_
      refine TC.k ?_
      refine TC.k ?_
      refine TC.region ?_
      refine TO.s rfl rfl rfl (StepS.move rfl) ?_
      refine TO.s rfl rfl rfl (StepS.lenm rfl e1 ksliceB_22_58_3_true rfl) ?_
      refine TO.s rfl rfl rfl (StepS.move rfl) ?_
      refine TO.code ?_
      obtain ⟨o25, hw26, hb19⟩ := bind_some hb19
      refine TC.loop hw26 (fun (x20, x21) => fun a w => Mid 62 B [(0, I a0), (1, h1), (2, h2), (9, I x13), (10, I x14), (11, I x20), (33, h1), (34, I (a1.length : Int)), (35, I x21)] (L) a w) (fun x24 => fun a w => Mid 62 B [(0, I a0), (1, h1), (2, h2), (9, I x13), (10, I x14), (11, I x24)] (L) a w) (fun (_ : Unit) _ _ => False) ?_ ?_ ?_ ?_
      · rintro ⟨x20, x21⟩ o25r hb27 a w ⟨he, hs⟩
        dsimp only [F31_L1] at hb27
        refine TC.use ?_ he hs
        refine TC.k ?_
        refine TC.region ?_
        refine TO.s rfl rfl rfl (StepS.cmp rfl rfl rfl) ?_
        refine TO.code ?_
        refine TC.k ?_
        refine TC.cond rfl (fun hc28 => ?_) (fun hc28 => ?_)
        · replace hb27 := cond_t hc28 hb27
          refine TC.skipk ?_
          refine TC.k ?_
          obtain ⟨x29, hj30, hb27⟩ := bind_some hb27
          first | refine TC.cutM (fun a w => Mid 62 B [(0, I a0), (1, h1), (2, h2), (9, I x13), (10, I x14), (11, I x29), (33, h1), (34, I (a1.length : Int)), (35, I x21)] (L) a w) ?_ ?_ | refine TC.cutX (fun a w => Mid 62 B [(0, I a0), (1, h1), (2, h2), (9, I x13), (10, I x14), (11, I x29), (33, h1), (34, I (a1.length : Int)), (35, I x21)] (L) a w) ?_ ?_
          · refine TC.block ?_
            refine TC.k ?_
            refine TC.region ?_
            obtain ⟨x31, hx32, hj30⟩ := bind_some hj30
            refine TO.s rfl rfl rfl (StepS.idx rfl rfl e1 ksliceB_22_58_3_true (idx_spec hx32).1 (idxm_lt hx32)) ?_
            refine TO.s rfl rfl rfl (StepS.ldE rfl e1 kaggB_58_3_true rfl (idxm hx32)) ?_
            refine TO.alloc kinfo_58_bind_zero_some_agg_I_0_I_0_I_0 rfl rfl fun b33 => ?_
            refine TO.stB (us := [I x31.1, I x31.2.1, I x31.2.2]) 0 [I x31.1, I x31.2.1, I x31.2.2] rfl rfl rfl ksizeB_58_3_true rfl rfl rfl (by simp [Value.oneCell']) rfl ?_
            refine TO.code ?_
            refine TC.k ?_
            refine TC.region ?_
            refine TO.s rfl rfl rfl (StepS.fld rfl kfieldB_58_0_0_true) ?_
            refine TO.s rfl rfl rfl (StepS.ldB rfl (Ent.at 0 rfl) kscalB_3_true rfl) ?_
            refine TO.s rfl rfl rfl (StepS.move rfl) ?_
            refine TO.s rfl rfl rfl (StepS.lenm rfl e2.tl ksliceB_34_3_1_true rfl) ?_
            refine TO.s rfl rfl rfl (StepS.cmp rfl rfl rfl) ?_
            refine TO.code ?_
            refine TC.cond rfl (fun hc34 => ?_) (fun hc34 => ?_)
            · replace hj30 := cond_t hc34 hj30
              refine TC.region ?_
              refine TO.s rfl rfl rfl (StepS.move rfl) ?_
              refine TO.s rfl rfl rfl (StepS.ari rfl rfl rfl) ?_
              refine TO.s rfl rfl rfl (StepS.assign rfl) ?_
              cases hj30
              refine TO.nil fun a w e s => ?_
              exact ⟨e.sub (lk_of_allIn ⟨rfl, rfl, rfl, rfl, rfl, rfl, rfl, rfl, rfl, trivial⟩), s.mono fun _ => Sat.dropN 1⟩
            · replace hj30 := cond_f hc34 hj30
              cases hj30
              refine TC.skip fun a w e s => ?_
              exact ⟨e.sub (lk_of_allIn ⟨rfl, rfl, rfl, rfl, rfl, rfl, rfl, rfl, rfl, trivial⟩), s.mono fun _ => Sat.dropN 1⟩
          · intro a w ⟨he, hs⟩
            refine TC.use ?_ he hs
            refine TC.region ?_
            refine TO.s rfl rfl rfl (StepS.ari rfl rfl rfl) ?_
            refine TO.s rfl rfl rfl (StepS.move rfl) ?_
            cases hb27
            refine TO.nil fun a w e s => ?_
            exact ⟨e.sub (lk_of_allIn ⟨rfl, rfl, rfl, rfl, rfl, rfl, rfl, rfl, rfl, trivial⟩), s⟩
        · replace hb27 := cond_f hc28 hb27
          cases hb27
          refine TC.exit rfl fun a w e s => ?_
          exact ⟨e.sub (lk_of_allIn ⟨rfl, rfl, rfl, rfl, rfl, rfl, trivial⟩), s⟩
      · exact fun a w e s => ⟨e.sub (lk_of_allIn ⟨rfl, rfl, rfl, rfl, rfl, rfl, rfl, rfl, rfl, trivial⟩), s⟩
      · rintro x24 rfl a w ⟨he, hs⟩
        dsimp only [Ctl.on] at hb19
        refine TC.use ?_ he hs
        refine TC.k ?_
        refine TC.k ?_
        refine TC.region ?_
        refine TO.s rfl rfl rfl (StepS.move rfl) ?_
        refine TO.s rfl rfl rfl (StepS.move rfl) ?_
        refine TO.s rfl rfl rfl (StepS.cmp rfl rfl rfl) ?_
        refine TO.code ?_
        refine TC.cond rfl (fun hc35 => ?_) (fun hc35 => ?_)
        · replace hb19 := cond_t hc35 hb19
          refine TC.k ?_
          refine TC.region ?_
          refine TO.s rfl rfl rfl (StepS.move rfl) ?_
          refine TO.s rfl rfl rfl (StepS.assign rfl) ?_
          refine TO.code ?_
          cases hb19
          refine TC.ret fun a w e s => ?_
          refine FRet.mk1 (P := Try.prog) (fn := Try.f31) (t := 6) e rfl rfl ?_
          exact ⟨rfl, s.mono fun _ => Sat.dropN 0⟩
        · replace hb19 := cond_f hc35 hb19
          refine TC.skipk ?_
          refine TC.region ?_
          refine TO.s rfl rfl rfl (StepS.move rfl) ?_
          refine TO.s rfl rfl rfl (StepS.move rfl) ?_
          refine TO.s rfl rfl rfl (StepS.move rfl) ?_
          refine TO.lit0 (f := cI) ksliceB_34_3_1_true rfl fun v36 => ?_
          refine TO.s rfl rfl rfl (StepS.move rfl) ?_
          obtain ⟨y38, hk39, hb19⟩ := bind_some hb19
          refine TO.app (k := 0) (f := cI) kelemB_34_3_1_8_true (by decide) rfl rfl rfl e2.tl hk39 (fun x c hc => by simp [Value.oneCell'] at hc ⊢; first | (obtain rfl := hc; rfl) | (rcases hc with rfl <;> rfl)) rfl rfl fun v40 => ?_
          refine TO.s rfl rfl rfl (StepS.move rfl) ?_
          refine TO.litS (f := cI) ([x14] : List Int) kelemB_34_3_1_8_true kinfo_3_bind_zero_some_I_0 rfl rfl (fun _ => rfl) rfl rfl (by kernel_rfl) rfl fun v41 => ?_
          obtain ⟨y43, hk44, hb19⟩ := bind_some hb19
          refine TO.app (k := 1) (f := cI) kelemB_34_3_1_8_true (by decide) rfl rfl rfl (OwnS.rd (Ent.at 0 rfl)) hk44 (fun x c hc => by simp [Value.oneCell'] at hc ⊢; first | (obtain rfl := hc; rfl) | (rcases hc with rfl <;> rfl)) rfl rfl fun v45 => ?_
          obtain ⟨r46, hc47, hb19⟩ := bind_some hb19
          refine TO.q rfl rfl rfl (StepQ.call kcallB_31_true rfl rfl (fun _ st => ih e1.tl.tl (OwnS.rd (Ent.at 1 rfl)) hc47 st)) ?_
          refine TO.s rfl rfl rfl (StepS.ari rfl rfl rfl) ?_
          refine TO.s rfl rfl rfl (StepS.assign rfl) ?_
          refine TO.code ?_
          refine TC.region ?_
          refine TO.s rfl rfl rfl (StepS.move rfl) ?_
          refine TO.s rfl rfl rfl (StepS.ari rfl rfl rfl) ?_
          refine TO.s rfl rfl rfl (StepS.assign rfl) ?_
          cases hb19
          refine TO.nil fun a w e s => ?_
          exact ⟨e.sub (lk_of_allIn ⟨rfl, rfl, rfl, rfl, rfl, trivial⟩), s.mono fun _ => Sat.dropN 2⟩
      · rintro r rfl
        exact fun a w h => h.elim
    · exact fun a w e s => ⟨e.sub (lk_of_allIn ⟨rfl, rfl, rfl, rfl, rfl, trivial⟩), s⟩
    · intro b hb0; subst hb0; exact absurd hm (by simp)
    · rintro r rfl
      cases hm
      exact fun a w h => h
theorem C31_R {B : World} : ∀ (n : Nat) {L : List HP} {a0 : Int} {a1 : List (Int × Int × Int)} {a2 : List Int} {h1 : Value} {h2 : Value} {r0 : Int} (e1 : Ent L (Rd 3 h1 (a1.map cTiii))) (e2 : Ent L (Rd 1 h2 (a2.map cI))) (hm : F31_R n a0 a1 a2 = some r0) {w : World} (st : St B L w), Calls Try.prog 31 #[I a0, h1, h2] w (fun e w' => (e = .returned (I r0) ∧ St B (L) w')) := by
  intro n
  induction n with
  | zero => intro L a0 a1 a2 h1 h2 r0 e1 e2 hm w st; cases hm
  | succ n ih => intro L a0 a1 a2 h1 h2 r0 e1 e2 hm w st; exact C31_B (F31_R n) (@ih) e1 e2 hm st
theorem C31 {B : World} {L : List HP} {a0 : Int} {a1 : List (Int × Int × Int)} {a2 : List Int} {h1 : Value} {h2 : Value} {r0 : Int} (e1 : Ent L (Rd 3 h1 (a1.map cTiii))) (e2 : Ent L (Rd 1 h2 (a2.map cI))) (hm : F31 a0 a1 a2 = some r0) {w : World} (st : St B L w) : Calls Try.prog 31 #[I a0, h1, h2] w (fun e w' => (e = .returned (I r0) ∧ St B (L) w')) := by
  obtain ⟨n, hn⟩ := fixO_spec hm
  exact C31_R n e1 e2 hn st

set_option maxRecDepth 100000 in
theorem C10 {B : World} {L : List HP} {a0 : Int} {a1 : List (Int × Int × Int)} {h1 : Value} {r0 : Bool} (e1 : Ent L (Rd 3 h1 (a1.map cTiii))) (hm : F10 a0 a1 = some r0) {w : World} (st : St B L w) : Calls Try.prog 10 #[I a0, h1] w (fun e w' => (e = .returned (.bool r0) ∧ St B (L) w')) := by
  refine calls_of (N := 35) (L := L) (args := [I a0, h1]) Try.func10 rfl rfl rfl ?_ st
  dsimp only [F10] at hm
  refine TC.k ?_
  refine TC.region ?_
  refine TO.s rfl rfl rfl (StepS.assign rfl) ?_
  refine TO.code ?_
  refine TC.k ?_
  refine TC.region ?_
  refine TO.s rfl rfl rfl (StepS.move rfl) ?_
  refine TO.s rfl rfl rfl (StepS.move rfl) ?_
  obtain ⟨⟨r1, r2⟩, hc3, hm⟩ := bind_some hm
  refine TO.q rfl rfl rfl (StepQ.call kcallB_30_true rfl rfl (fun _ st => C30 e1 hc3 st)) ?_
  refine TO.s rfl rfl rfl (StepS.move rfl) ?_
  refine TO.s rfl rfl rfl (StepS.extract rfl rfl) ?_
  refine TO.s rfl rfl rfl (StepS.extract rfl rfl) ?_
  refine TO.s rfl rfl rfl (StepS.assign rfl) ?_
  refine TO.s rfl rfl rfl (StepS.assign rfl) ?_
  refine TO.code ?_
  refine TC.k ?_
  refine TC.region ?_
  refine TO.s rfl rfl rfl (StepS.move rfl) ?_
  refine TO.s rfl rfl rfl (StepS.move rfl) ?_
  obtain ⟨r4, hc5, hm⟩ := bind_some hm
  refine TO.q rfl rfl rfl (StepQ.call kcallB_16_true rfl rfl (fun _ st => C16 e1 hc5 st)) ?_
  refine TO.s rfl rfl rfl (StepS.assign rfl) ?_
  refine TO.code ?_
  refine TC.k ?_
  refine TC.k ?_
  refine TC.region ?_
  refine TO.s rfl rfl rfl (StepS.move rfl) ?_
  refine TO.s rfl rfl rfl (StepS.cmp rfl rfl rfl) ?_
  refine TO.code ?_
  refine TC.cond rfl (fun hc6 => ?_) (fun hc6 => ?_)
  · replace hm := cond_t hc6 hm
    refine TC.k ?_
    refine TC.region ?_
    refine TO.s rfl rfl rfl (StepS.move rfl) ?_
    refine TO.s rfl rfl rfl (StepS.move rfl) ?_
    refine TO.s rfl rfl rfl (StepS.cmp rfl rfl rfl) ?_
    refine TO.s rfl rfl rfl (StepS.move rfl) ?_
    refine TO.mid1 3 25 (.bool ((r2 == r4) && (r1 == 0))) ?_ ?_
    · refine bcase ((r2 == r4)) (fun hb7 => ?_) (fun hb7 => ?_)
      · refine TO.sw rfl rfl rfl hb7 rfl rfl (StepS.move rfl) ?_
        refine TO.sw rfl rfl rfl hb7 rfl rfl (StepS.cmp rfl rfl rfl) ?_
        refine TO.s rfl rfl rfl (StepS.pickT rfl hb7 rfl) ?_
        exact TO.up1 3 0 rfl rfl (by rw [hb7]; rfl) rfl
      · refine TO.skip rfl rfl rfl (skipF hb7) rfl rfl ?_
        refine TO.skip rfl rfl rfl (skipF hb7) rfl rfl ?_
        refine TO.s rfl rfl rfl (StepS.pickF rfl hb7 rfl) ?_
        exact TO.up1 3 0 rfl rfl (by rw [hb7]; rfl) rfl
    refine TO.s rfl rfl rfl (StepS.assign rfl) ?_
    refine TO.code ?_
    cases hm
    refine TC.ret fun a w e s => ?_
    refine FRet.mk1 (P := Try.prog) (fn := Try.f10) (t := 4) e rfl rfl ?_
    exact ⟨rfl, s.mono fun _ => Sat.dropN 0⟩
  · replace hm := cond_f hc6 hm
    refine TC.skipk ?_
    refine TC.k ?_
    refine TC.region ?_
    refine TO.s rfl rfl rfl (StepS.move rfl) ?_
    refine TO.s rfl rfl rfl (StepS.cmp rfl rfl rfl) ?_
    refine TO.s rfl rfl rfl (StepS.move rfl) ?_
    obtain ⟨b9, hj10, hm⟩ := bind_some hm
    refine TO.mid1 6 34 (.bool b9) ?_ ?_
    · refine bcase ((r2 == 0)) (fun hb8 => ?_) (fun hb8 => ?_)
      · replace hj10 := cond_t hb8 hj10
        refine TO.sw rfl rfl rfl hb8 rfl rfl (StepS.move rfl) ?_
        refine TO.sw rfl rfl rfl hb8 rfl rfl (StepS.move rfl) ?_
        refine TO.sw rfl rfl rfl hb8 rfl rfl (StepS.move rfl) ?_
        obtain ⟨r11, hc12, hj10⟩ := bind_some hj10
        refine TO.qw rfl rfl rfl hb8 rfl rfl (StepQ.call kcallB_31_true rfl rfl (fun _ st => C31 e1 Ent.nil hc12 st)) ?_
        refine TO.sw rfl rfl rfl hb8 rfl rfl (StepS.cmp rfl rfl rfl) ?_
        cases hj10
        refine TO.s rfl rfl rfl (StepS.pickT rfl hb8 rfl) ?_
        exact TO.up1 6 0 rfl rfl rfl rfl
      · replace hj10 := cond_f hb8 hj10
        cases hj10
        refine TO.skip rfl rfl rfl (skipF hb8) rfl rfl ?_
        refine TO.skip rfl rfl rfl (skipF hb8) rfl rfl ?_
        refine TO.skip rfl rfl rfl (skipF hb8) rfl rfl ?_
        refine TO.skip rfl rfl rfl (skipF hb8) rfl rfl ?_
        refine TO.skip rfl rfl rfl (skipF hb8) rfl rfl ?_
        refine TO.s rfl rfl rfl (StepS.pickF rfl hb8 rfl) ?_
        exact TO.up1 6 0 rfl rfl rfl rfl
    refine TO.s rfl rfl rfl (StepS.assign rfl) ?_
    refine TO.code ?_
    cases hm
    refine TC.ret fun a w e s => ?_
    refine FRet.mk1 (P := Try.prog) (fn := Try.f10) (t := 4) e rfl rfl ?_
    exact ⟨rfl, s.mono fun _ => Sat.dropN 0⟩
end Go.Proofs.Ytmfidlalejdikaa
