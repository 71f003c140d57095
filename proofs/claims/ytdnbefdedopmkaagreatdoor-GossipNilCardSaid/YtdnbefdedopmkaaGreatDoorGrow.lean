/- For every step and every number the law of a nil net says true: the row, and its tied card. Conditions: those that the given row bears (the listed tables read as their initialisers lay them; outside, the clock alone goes on). -/
import Derived.Test.YtdnbefdedopmkaaGreatDoorCards
import Derived.Test.YtdnbefdedopmkaaGreatDoorGpost
import Derived.Test.YtdnbefdedopmkaaGreatDoorGstart
import Derived.Test.YtdnbefdedopmkaaGreatDoorPb
import Derived.Test.YtdnbefdedopmkaaGreatDoorLeave
namespace Go.Proofs.YtdnbefdedopmkaaGreatDoor
open Go.ChangeShapes Go.WideShapes Go.ChangeAt Go.RowKit
set_option maxRecDepth 100000

theorem own : ownKnob Tryz.prog.godebug = none := by kernel_rfl
theorem noInit : Tryz.prog.inits.idxOf? 3 = none := by kernel_rfl
theorem funcIs : Tryz.prog.funcNamed Rows.gossipNilRow.func = some 3 := by kernel_rfl
theorem lifted (os : Os) (started : os.Started) (H : Type) (enc : TypeId × Value → H) (F : Stop.Interp) :
    ReturnsInLeavingWide { calm := true } Tryz.checked os 3 .any ((OpenSpec.ofChange Rows.gossipNilSpec).preRow enc Tryz.prog Tryz.f3 Rows.gossipNilRow.domain false Rows.gossipNilRow.laid)
      ((OpenSpec.ofChange Rows.gossipNilSpec).postWith enc Tryz.prog Tryz.f3 F (outsideKept [.timePasses]) false true false) :=
  returnsInLeavingTime_of_row (C := Tryz.checked) own started noInit Tryz.func3
    (witness_row_shaped (C := Tryz.checked) (laidW os) argZ (startOs os) (startShaped os) (startOk os)
      (OpenSpec.preRow_of_cond 8 (startReads os enc) rfl (fun k hk => by cases hk) (startSized os enc) (startMetH os)))
    (fun W base args ds gs before hval hW _ _ => law_post Rows.gossipNilSpec rfl (fun _ _ => rfl) W base args ds gs before hval hW)

theorem pinnedIs : Tryz.pinned.checked = Tryz.checked := rfl
theorem progIs : Tryz.pinned.checked.prog = Tryz.prog := rfl
theorem instIs : Tryz.f3.isInstance Tryz.prog Rows.gossipNilRow.origin Rows.gossipNilRow.targs := of_decide_eq_true (by kernel_rfl)
theorem wrapIs : Tryz.f3.isWrapper Tryz.prog Rows.gossipNilRow.wrapper Rows.gossipNilRow.mainSum := by
  unfold Func.isWrapper
  first | (rw [if_pos (by decide +kernel)]; kernel_rfl) | (rw [if_neg (by decide +kernel)]; exact ⟨rfl, rfl⟩)
theorem said : Rows.GossipNilSaid := by
  refine OpenClaim.holds_of_wide_leaving_time (p := Tryz.pinned) (s := Rows.gossipNilSpec) (c := Rows.gossipNilRow) 3 Tryz.f3 rfl rfl rfl rfl rfl rfl rfl ⟨rfl, rfl, rfl, rfl, rfl⟩ rfl rfl rfl rfl rfl ?_ ?_ ?_ ?_ ?_ ?_
  · rw [progIs]; exact funcIs
  · rw [progIs]; exact Tryz.func3
  · rw [progIs]; exact closedFacts
  · rw [progIs]; exact instIs
  · rw [progIs]; exact wrapIs
  · intro os started H enc _ F
    rw [OpenClaim.pre_eq_preRow, pinnedIs]
    exact lifted os started H enc F

theorem looksOn : true = Tryz.prog.looks [] := by kernel_rfl
theorem noStandIn : (Tryz.f3.params.toList.all fun t => !Tryz.prog.wantsStandIn t) = true := by kernel_rfl
theorem mainIs : Tryz.prog.mainIs = some (true, "3bd484fca6a8bbf7e63295c93e2cdcbea622590fdd3ad36ea5fef315d407010e".toList) := by kernel_rfl
theorem wfByText : Rows.gossipNilRow.wfByText (OpenSpec.ofChange Rows.gossipNilSpec) = true := by kernel_rfl
theorem goesBy : true = Rows.gossipNilRow.goesBy Tryz.prog := by
  unfold OpenClaim.goesBy Program.goesAt Program.goesFrom
  rw [funcIs, Option.any_some, goesIs, Bool.true_or]
theorem plain (f : FuncId) (fn : Func) (hf : Tryz.pinned.checked.prog.funcNamed Rows.gossipNilRow.func = some f) (hfn : Tryz.pinned.checked.prog.funcs[f]? = some fn) :
    true = Tryz.pinned.checked.prog.looks [] ∧ ∀ (j : Nat) t, fn.params[j]? = some t → Tryz.pinned.checked.prog.wantsStandIn t = false := by
  rw [progIs] at hf hfn ⊢
  obtain rfl : f = 3 := (Option.some.inj (funcIs.symm.trans hf)).symm
  obtain rfl : fn = Tryz.f3 := (Option.some.inj (Tryz.func3.symm.trans hfn)).symm
  refine ⟨looksOn, fun j t ht => ?_⟩
  have h := List.all_eq_true.1 noStandIn t (List.mem_of_getElem? (by simpa using ht))
  simpa using h

/-- THE CARD. -/
theorem card : Rows.GossipNilCardSaid :=
  holds_tied_goes .later _ _ _ _ said wfByText rowTie rfl ⟨rfl, rfl⟩ (by rw [progIs]; exact mainIs) rfl plain (by rw [progIs]; exact goesBy)
end Go.Proofs.YtdnbefdedopmkaaGreatDoor
