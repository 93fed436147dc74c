/-
  TopPlans: WHATEVER THE INPUT, THE CALL RETURNS TRUE, AND THE INPUT READS AS IT DID: the row, and the tied card.
  Conditions: none of ours; the row's own (the listed tables of unicode/utf8 read as the program's text lays them, which the card ties).
-/
import Derived.Test.YtooonpmiglhjpaaGreatDoorRows
import Derived.Test.YtooonpmiglhjpaaGreatDoorCards
import Derived.Test.YtooonpmiglhjpaaGreatDoorTie
import Derived.Test.YtooonpmiglhjpaaGreatDoorPlansW
import Derived.Test.YtooonpmiglhjpaaGreatDoorPlansFacts
import Derived.ProofKit
import Derived.OpenShut
import Derived.ShutString
import Derived.ChangeOld
import Derived.Below
import Derived.LaidMore
import Derived.Lay
import Derived.SevenTiedAt
import Derived.Stop.Joined
namespace Go.Proofs.YtooonpmiglhjpaaGreatDoor
open Go.ChangeShapes Go.WideShapes Go.ChangeAt Go.RowKit
set_option linter.unusedVariables false

theorem own : ownKnob Tryz.prog.godebug = none := by kernel_rfl
theorem laidOut : laidOutB Tryz.prog = true := by kernel_rfl

set_option maxRecDepth 100000 in
theorem topPlans_lifted (os : Os) (started : os.Started) (H : Type) (enc : TypeId × Value → H) :
    ReturnsInHanded {} Tryz.checked os 5 .any (fun w args => (Rows.topPlansSpec.pre enc Tryz.prog Tryz.f5 Rows.topPlansRow.domain false w args ∧ laidMetH Tryz.prog Rows.topPlansRow.laid w) ∧ sizedMet enc Tryz.prog Tryz.f5 (OpenSpec.ofChange Rows.topPlansSpec) false w args)
      (Rows.topPlansSpec.post enc Tryz.prog Tryz.f5 false true false false) := by
  refine returnsInHanded_of_change_and (C := Tryz.checked) (X := fun w _ => laidMetH Tryz.prog Rows.topPlansRow.laid w) (fun _ _ _ hh h => h.of_heap hh) own started (by kernel_rfl) Tryz.func5
    (ChangeSpec.witness_shaped (enc := enc) (C := Tryz.checked) (os := os) (X := fun w _ => laidMetH Tryz.prog Rows.topPlansRow.laid w) false (World.laidAll Tryz.prog os Rows.topPlansRow.laid) #[.int .u8 0, .int .u8 0, .int .u8 0, .int .i8 0, .int .i32 0] 8 (World.laidAll_os _ _ _)
      (World.shaped_of_ZipB (by kernel_rfl) (by kernel_rfl)) (by kernel_rfl) (by kernel_rfl) (by kernel_rfl)
      (by rw [MakeChecks.laidMetH_plain _ _ _ (by kernel_rfl)]; exact laidMet_laidAll _ (by kernel_rfl) (by kernel_rfl))) ?_
  intro W base args ds gs before hval0 hW _ _ _ hsz
  have hval : ∀ (j : Nat) t v, Tryz.f5.params[j]? = some t → args[j]? = some v → Value.okWide Tryz.prog W .any base t v := hval0
  have hW' := hW
  obtain ⟨p, q, hA0, hV, rfl, hfz, hnd⟩ := hW
  have hA : DataW.TrodAll enc Tryz.prog W 0 (fun _ => true) true Tryz.f5.params.toList args.toList ds p := hA0
  rw [Tryz.params5] at hA hval
  obtain ⟨v0, vs0, d0, ds0, p0, q0, hargs, rfl, rfl, h0, r0⟩ := trodAll_cons hA
  obtain ⟨v1, vs1, d1, ds1, p1, q1, rfl, rfl, rfl, h1, r1⟩ := trodAll_cons r0
  obtain ⟨v2, vs2, d2, ds2, p2, q2, rfl, rfl, rfl, h2, r2⟩ := trodAll_cons r1
  obtain ⟨v3, vs3, d3, ds3, p3, q3, rfl, rfl, rfl, h3, r3⟩ := trodAll_cons r2
  obtain ⟨v4, vs4, d4, ds4, p4, q4, rfl, rfl, rfl, h4, r4⟩ := trodAll_cons r3
  obtain ⟨rfl, rfl, rfl⟩ := trodAll_nil r4
  obtain rfl : args = #[v0, v1, v2, v3, v4] := by cases args; simp_all
  obtain ⟨rfl, rfl⟩ := trodVars_none hV
  obtain ⟨a0, rfl, rfl, rfl, w0⟩ := open_int Tryz.underlying5 (hval 0 5 v0 rfl rfl) h0
  obtain ⟨a1, rfl, rfl, rfl, w1⟩ := open_int Tryz.underlying5 (hval 1 5 v1 rfl rfl) h1
  obtain ⟨a2, rfl, rfl, rfl, w2⟩ := open_int Tryz.underlying5 (hval 2 5 v2 rfl rfl) h2
  obtain ⟨a3, rfl, rfl, rfl, w3⟩ := open_int Tryz.underlying60 (hval 3 60 v3 rfl rfl) h3
  obtain ⟨a4, rfl, rfl, rfl, w4⟩ := open_int Tryz.underlying21 (hval 4 21 v4 rfl rfl) h4
  clear hA0 hval0
  refine (topPlans_walk a0 w0 a1 w1 a2 w2 a3 w3 a4 w4 W).mono fun e W' ⟨he, bel⟩ => ?_
  subst he
  exact ⟨_, rfl, _, _, _, [], _, [], hW', trodAll_mk1 (shut_bool Tryz.underlying4 _), (trodAll_cons_mk (shut_int Tryz.underlying5 w0) (trodAll_cons_mk (shut_int Tryz.underlying5 w1) (trodAll_cons_mk (shut_int Tryz.underlying5 w2) (trodAll_cons_mk (shut_int Tryz.underlying60 w3) (trodAll_cons_mk (shut_int Tryz.underlying21 w4) trodAll_mk0))))), rfl, bel.frame _, fun h => by cases h⟩

theorem topPlans_row : Rows.TopPlansSaid :=
  OpenClaim.holds_of_wide 5 Tryz.f5 rfl rfl rfl rfl rfl rfl rfl ⟨rfl, rfl, rfl, rfl, rfl⟩ rfl rfl rfl rfl rfl topPlans_named Tryz.func5 topPlans_closed topPlans_instance topPlans_wrapper
    (fun os started H enc _ => topPlans_lifted os started H enc)

theorem topPlans_wfByText : Rows.topPlansRow.wfByText (OpenSpec.ofChange Rows.topPlansSpec) = true := by kernel_rfl
theorem topPlans_mainIs : Tryz.pinned.checked.prog.mainIs = some (Rows.topPlansCard.stood.harness.1, Rows.topPlansCard.stood.harness.2.toList) := by kernel_rfl
theorem topPlans_looks : true = Tryz.pinned.checked.prog.looks [] := by kernel_rfl
theorem topPlans_goes : false = Rows.topPlansRow.goesBy Tryz.pinned.checked.prog := by kernel_rfl
theorem topPlans_plainly : ([5, 5, 5, 60, 21].all fun u => !Tryz.prog.wantsStandIn u) = true := by kernel_rfl

/-- THE TIED CARD -/
theorem topPlans_card : Rows.TopPlansCardSaid :=
  Claim7.holds_tied_plain_at .later [] Rows.topPlansCard.laidKinds true Rows.topPlansCard.stood.harness true
    topPlans_row (fun _ h => by cases h) topPlans_wfByText (fun _ h => by cases h) topPlans_row_tie rfl ⟨rfl, rfl⟩ topPlans_mainIs rfl
    (fun f fn hf hfn => by
      obtain rfl : f = 5 := Option.some.inj (topPlans_named.symm.trans hf) |>.symm
      obtain rfl : fn = Tryz.f5 := (Option.some.inj (Tryz.func5.symm.trans hfn)).symm
      exact ⟨topPlans_looks, fun j t ht => by
        have ht' := ht
        rw [Tryz.params5] at ht'
        have hm : t ∈ [5, 5, 5, 60, 21] := by simpa using Array.mem_of_getElem? ht'
        exact (show Tryz.prog.wantsStandIn t = false by simpa using List.all_eq_true.1 topPlans_plainly t hm)⟩)
    topPlans_goes
#print axioms topPlans_card
end Go.Proofs.YtooonpmiglhjpaaGreatDoor
