/-
  The closed facts of the row of TopPlans: each by the kernel.
-/
import Derived.Test.YtooonpmiglhjpaaGreatDoorRows
import Derived.JoinedOf
import Derived.KernelRfl
namespace Go.Proofs.YtooonpmiglhjpaaGreatDoor
open Go

theorem topPlans_fact0 : (Rows.topPlansRow.wf (OpenSpec.ofChange Rows.topPlansSpec)) = true := by kernel_rfl
theorem topPlans_fact1 : (laidOutB Tryz.prog) = true := by kernel_rfl
theorem topPlans_fact2 : (mapsRowed Tryz.prog) = true := by kernel_rfl
theorem topPlans_fact3 : (Tryz.f5.params.all (Tryz.prog.readableRec ·)) = true := by kernel_rfl
theorem topPlans_fact4 : (namedTie Tryz.prog Rows.topPlansRow.named Rows.topPlansSpec.vars) = true := by kernel_rfl
theorem topPlans_fact5 : ((Rows.topPlansRow.stops == [])) = true := by kernel_rfl
theorem topPlans_fact6 : ((Tryz.prog.stops == [])) = true := by kernel_rfl
theorem topPlans_fact7 : ((Rows.topPlansRow.knobs == [])) = true := by kernel_rfl
theorem topPlans_fact8 : ((Tryz.prog.stopKnobs == [])) = true := by kernel_rfl
theorem topPlans_fact9 : ((Rows.topPlansRow.inPlace == Tryz.prog.inPlace 5)) = true := by kernel_rfl
theorem topPlans_fact10 : ((Rows.topPlansRow.unfollowed == Tryz.prog.unfollowed 5)) = true := by kernel_rfl
theorem topPlans_fact11 : ((Rows.topPlansRow.recurses == Tryz.prog.recurses 5)) = true := by kernel_rfl
theorem topPlans_fact12 : ((Rows.topPlansRow.named == Tryz.prog.varsNamed 5)) = true := by kernel_rfl
theorem topPlans_fact13 : ((Rows.topPlansRow.maps == (Tryz.f5.params.toList ++ Rows.topPlansSpec.plain.varTypes Tryz.prog).any (Tryz.prog.mapsRec ·))) = true := by kernel_rfl
theorem topPlans_fact14 : ((Rows.topPlansRow.ifaces == (Tryz.f5.params.toList ++ Rows.topPlansSpec.plain.varTypes Tryz.prog).any (Tryz.prog.ifacesRec ·))) = true := by kernel_rfl
theorem topPlans_fact15 : ((Rows.topPlansRow.mapsOut == Tryz.prog.mapsAmong Tryz.f5.resultTypes.toList)) = true := by kernel_rfl
theorem topPlans_fact16 : ((Rows.topPlansRow.loops == (Tryz.f5.params.toList ++ Rows.topPlansSpec.plain.varTypes Tryz.prog).any (Tryz.prog.loopsFrom ·))) = true := by kernel_rfl
theorem topPlans_fact17 : ((Rows.topPlansRow.wideKeys == (Tryz.f5.params.toList ++ Rows.topPlansSpec.plain.varTypes Tryz.prog ++ Tryz.f5.resultTypes.toList).any (Tryz.prog.wideKeysFrom ·))) = true := by kernel_rfl
theorem topPlans_fact18 : (Rows.topPlansSpec.vars.all (Tryz.prog.varReadable ·)) = true := by kernel_rfl
theorem topPlans_fact19 : (Tryz.f5.resultTypes.all (fun t => Tryz.prog.readableRec t && decide (t < Tryz.prog.types.size))) = true := by kernel_rfl
theorem topPlans_fact20 : ((Rows.topPlansRow.ifacesOut == Tryz.f5.resultTypes.toList.any (Tryz.prog.ifacesRec ·))) = true := by kernel_rfl
theorem topPlans_fact21 : ((Rows.topPlansRow.loopsOut == Tryz.f5.resultTypes.toList.any (Tryz.prog.loopsFrom ·))) = true := by kernel_rfl
theorem topPlans_fact22 : ((Rows.topPlansRow.plainKeys == Tryz.prog.plainKeys)) = true := by kernel_rfl
theorem topPlans_fact23 : (Rows.topPlansRow.shortTexts.isNone) = true := by kernel_rfl
theorem topPlans_fact24 : (Tryz.prog.stopsHeard) = true := by kernel_rfl
theorem topPlans_fact25 : (Tryz.prog.mayEnter) = true := by kernel_rfl
theorem topPlans_fact26 : ((Rows.topPlansRow.lifted == Tryz.prog.liftsFinal)) = true := by kernel_rfl
theorem topPlans_fact27 : ((Tryz.prog.make == some Rows.topPlansRow.make)) = true := by kernel_rfl
theorem topPlans_fact28 : ((Rows.topPlansRow.kinds == (if Rows.topPlansRow.domain.isEmpty then [] else Tryz.f5.params.toList.map fun t => match Tryz.prog.underlying t with | some (.int k) => some k | _ => none))) = true := by kernel_rfl
theorem topPlans_fact29 : ((Rows.topPlansRow.pinned == Rows.topPlansRow.pinnedBy)) = true := by kernel_rfl
theorem topPlans_fact30 : ((Rows.topPlansRow.veiled == (Tryz.f5.params.toList ++ Rows.topPlansSpec.plain.varTypes Tryz.prog ++ Tryz.f5.resultTypes.toList).any (Tryz.prog.veiledRec ·))) = true := by kernel_rfl
theorem topPlans_fact31 : (Rows.topPlansRow.veiledFits Tryz.prog Tryz.f5.params.toList (Tryz.f5.params.toList ++ Rows.topPlansSpec.plain.varTypes Tryz.prog ++ Tryz.f5.resultTypes.toList)) = true := by kernel_rfl
theorem topPlans_joined_of (P : Program) (f : FuncId) (fn : Func) (s : ChangeSpec) (c : OpenClaim) (h0 : (c.wf (OpenSpec.ofChange s)) = true) (h1 : (laidOutB P) = true) (h2 : (mapsRowed P) = true) (h3 : (fn.params.all (P.readableRec ·)) = true) (h4 : (namedTie P c.named s.vars) = true) (h5 : ((c.stops == [])) = true) (h6 : ((P.stops == [])) = true) (h7 : ((c.knobs == [])) = true) (h8 : ((P.stopKnobs == [])) = true) (h9 : ((c.inPlace == P.inPlace f)) = true) (h10 : ((c.unfollowed == P.unfollowed f)) = true) (h11 : ((c.recurses == P.recurses f)) = true) (h12 : ((c.named == P.varsNamed f)) = true) (h13 : ((c.maps == (fn.params.toList ++ s.plain.varTypes P).any (P.mapsRec ·))) = true) (h14 : ((c.ifaces == (fn.params.toList ++ s.plain.varTypes P).any (P.ifacesRec ·))) = true) (h15 : ((c.mapsOut == P.mapsAmong fn.resultTypes.toList)) = true) (h16 : ((c.loops == (fn.params.toList ++ s.plain.varTypes P).any (P.loopsFrom ·))) = true) (h17 : ((c.wideKeys == (fn.params.toList ++ s.plain.varTypes P ++ fn.resultTypes.toList).any (P.wideKeysFrom ·))) = true) (h18 : (s.vars.all (P.varReadable ·)) = true) (h19 : (fn.resultTypes.all (fun t => P.readableRec t && decide (t < P.types.size))) = true) (h20 : ((c.ifacesOut == fn.resultTypes.toList.any (P.ifacesRec ·))) = true) (h21 : ((c.loopsOut == fn.resultTypes.toList.any (P.loopsFrom ·))) = true) (h22 : ((c.plainKeys == P.plainKeys)) = true) (h23 : (c.shortTexts.isNone) = true) (h24 : (P.stopsHeard) = true) (h25 : (P.mayEnter) = true) (h26 : ((c.lifted == P.liftsFinal)) = true) (h27 : ((P.make == some c.make)) = true) (h28 : ((c.kinds == (if c.domain.isEmpty then [] else fn.params.toList.map fun t => match P.underlying t with | some (.int k) => some k | _ => none))) = true) (h29 : ((c.pinned == c.pinnedBy)) = true) (h30 : ((c.veiled == (fn.params.toList ++ s.plain.varTypes P ++ fn.resultTypes.toList).any (P.veiledRec ·))) = true) (h31 : (c.veiledFits P fn.params.toList (fn.params.toList ++ s.plain.varTypes P ++ fn.resultTypes.toList)) = true) : joinedFacts P f fn s c = true := by
  unfold joinedFacts
  simp only [Bool.and_eq_true]
  exact ⟨⟨⟨⟨⟨⟨⟨⟨⟨⟨⟨⟨⟨⟨⟨⟨⟨⟨⟨⟨⟨⟨⟨⟨⟨⟨⟨⟨⟨⟨⟨h0, h1⟩, h2⟩, h3⟩, h4⟩, h5⟩, h6⟩, h7⟩, h8⟩, h9⟩, h10⟩, h11⟩, h12⟩, h13⟩, h14⟩, h15⟩, h16⟩, h17⟩, h18⟩, h19⟩, h20⟩, h21⟩, h22⟩, h23⟩, h24⟩, h25⟩, h26⟩, h27⟩, h28⟩, h29⟩, h30⟩, h31⟩
theorem topPlans_closed : joinedFacts Tryz.prog 5 Tryz.f5 Rows.topPlansSpec Rows.topPlansRow = true := topPlans_joined_of _ _ _ _ _ topPlans_fact0 topPlans_fact1 topPlans_fact2 topPlans_fact3 topPlans_fact4 topPlans_fact5 topPlans_fact6 topPlans_fact7 topPlans_fact8 topPlans_fact9 topPlans_fact10 topPlans_fact11 topPlans_fact12 topPlans_fact13 topPlans_fact14 topPlans_fact15 topPlans_fact16 topPlans_fact17 topPlans_fact18 topPlans_fact19 topPlans_fact20 topPlans_fact21 topPlans_fact22 topPlans_fact23 topPlans_fact24 topPlans_fact25 topPlans_fact26 topPlans_fact27 topPlans_fact28 topPlans_fact29 topPlans_fact30 topPlans_fact31
theorem topPlans_named : Tryz.prog.funcNamed "portmanteau/portmanteautop.TopPlans" = some 5 := by kernel_rfl
theorem topPlans_instance : Tryz.f5.isInstance Tryz.prog Rows.topPlansRow.origin Rows.topPlansRow.targs := of_decide_eq_true (by kernel_rfl)
theorem topPlans_wrapper : Tryz.f5.isWrapper Tryz.prog Rows.topPlansRow.wrapper Rows.topPlansRow.mainSum := by
  unfold Func.isWrapper
  rw [if_neg (of_decide_eq_false (by kernel_rfl))]
  exact ⟨rfl, rfl⟩
end Go.Proofs.YtooonpmiglhjpaaGreatDoor
