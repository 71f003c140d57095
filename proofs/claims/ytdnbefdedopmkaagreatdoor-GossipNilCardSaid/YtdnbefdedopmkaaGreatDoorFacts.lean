/- The row's closed facts, each a declaration of its own. -/
import Derived.Test.YtdnbefdedopmkaaGreatDoorRows
import Derived.Test.YtdnbefdedopmkaaGreatDoorFb
import Derived.JoinedOf
namespace Go.Proofs.YtdnbefdedopmkaaGreatDoor
open Go
set_option maxRecDepth 100000

theorem laid0 : (List.range' 0 100).all (rowFine Tryz.prog) = true := by kernel_rfl
theorem laid1 : (List.range' 100 100).all (rowFine Tryz.prog) = true := by kernel_rfl
theorem laid2 : (List.range' 200 100).all (rowFine Tryz.prog) = true := by kernel_rfl
theorem laid3 : (List.range' 300 100).all (rowFine Tryz.prog) = true := by kernel_rfl
theorem laid4 : (List.range' 400 100).all (rowFine Tryz.prog) = true := by kernel_rfl
theorem laid5 : (List.range' 500 100).all (rowFine Tryz.prog) = true := by kernel_rfl
theorem laid6 : (List.range' 600 100).all (rowFine Tryz.prog) = true := by kernel_rfl
theorem laid7 : (List.range' 700 90).all (rowFine Tryz.prog) = true := by kernel_rfl
theorem laidTypes : Tryz.prog.types.size = 790 := by kernel_rfl
theorem laidUpto : Upto (rowFine Tryz.prog) 790 := ((((((((Upto.zero _).step laid0).step laid1).step laid2).step laid3).step laid4).step laid5).step laid6).step laid7
theorem laidRows : (List.range Tryz.prog.types.size).all (rowFine Tryz.prog) = true := by
  rw [laidTypes]
  exact List.all_eq_true.2 fun f hf => laidUpto f (List.mem_range.1 hf)
theorem laidGlobals : Tryz.prog.globals.all (fun g => decide (g.type < Tryz.prog.types.size)) = true := by
  rw [laidTypes]
  kernel_rfl
theorem laidFuncs : Tryz.prog.funcs.all (fun f => f.params.all fun t => decide (t < Tryz.prog.types.size)) = true := by
  rw [laidTypes]
  kernel_rfl
theorem and2 {a b : Bool} (h : a = true) (k : b = true) : (a && b) = true := by rw [h, k]; rfl
theorem laidOut : laidOutB Tryz.prog = true := by
  unfold laidOutB
  exact and2 (and2 laidRows laidGlobals) laidFuncs
theorem j1 : Rows.gossipNilRow.wf (OpenSpec.ofChange Rows.gossipNilSpec) = true := by kernel_rfl
theorem j3 : mapsRowed Tryz.prog = true := by kernel_rfl
theorem j4 : Tryz.f3.params.all (Tryz.prog.readableRec ·) = true := by kernel_rfl
theorem j5 : namedTie Tryz.prog Rows.gossipNilRow.named Rows.gossipNilSpec.vars = true := by kernel_rfl
theorem j7 : (Tryz.prog.stops == []) = true := by kernel_rfl
theorem j9 : (Tryz.prog.stopKnobs == []) = true := by kernel_rfl
theorem j10 : (Rows.gossipNilRow.inPlace == Tryz.prog.inPlace 3) = true := by rw [inPlaceIs]; kernel_rfl
theorem j11 : (Rows.gossipNilRow.unfollowed == Tryz.prog.unfollowed 3) = true := by rw [unfollowedIs]; kernel_rfl
theorem j12 : (Rows.gossipNilRow.recurses == Tryz.prog.recurses 3) = true := by rw [recursesIs]; kernel_rfl
theorem j13 : (Rows.gossipNilRow.named == Tryz.prog.varsNamed 3) = true := by rw [namedIs]; kernel_rfl
theorem j14 : (Rows.gossipNilRow.maps == (Tryz.f3.params.toList ++ Rows.gossipNilSpec.plain.varTypes Tryz.prog).any (Tryz.prog.mapsRec ·)) = true := by kernel_rfl
theorem j15 : (Rows.gossipNilRow.ifaces == (Tryz.f3.params.toList ++ Rows.gossipNilSpec.plain.varTypes Tryz.prog).any (Tryz.prog.ifacesRec ·)) = true := by kernel_rfl
theorem j16 : (Rows.gossipNilRow.mapsOut == Tryz.prog.mapsAmong Tryz.f3.resultTypes.toList) = true := by kernel_rfl
theorem j17 : (Rows.gossipNilRow.loops == (Tryz.f3.params.toList ++ Rows.gossipNilSpec.plain.varTypes Tryz.prog).any (Tryz.prog.loopsFrom ·)) = true := by kernel_rfl
theorem j17b : (Rows.gossipNilRow.wideKeys == (Tryz.f3.params.toList ++ Rows.gossipNilSpec.plain.varTypes Tryz.prog ++ Tryz.f3.resultTypes.toList).any (Tryz.prog.wideKeysFrom ·)) = true := by kernel_rfl
theorem j19 : Tryz.f3.resultTypes.all (fun t => Tryz.prog.readableRec t && decide (t < Tryz.prog.types.size)) = true := by kernel_rfl
theorem j20 : (Rows.gossipNilRow.ifacesOut == Tryz.f3.resultTypes.toList.any (Tryz.prog.ifacesRec ·)) = true := by kernel_rfl
theorem j21 : (Rows.gossipNilRow.loopsOut == Tryz.f3.resultTypes.toList.any (Tryz.prog.loopsFrom ·)) = true := by kernel_rfl
theorem j22 : (Rows.gossipNilRow.plainKeys == Tryz.prog.plainKeys) = true := by kernel_rfl
theorem j23b : Tryz.prog.stopsHeard = true := by kernel_rfl
theorem j24 : Tryz.prog.mayEnter = true := by kernel_rfl
theorem j24b : (Rows.gossipNilRow.lifted == Tryz.prog.liftsFinal) = true := by kernel_rfl
theorem j24c : (Tryz.prog.make == some Rows.gossipNilRow.make) = true := by kernel_rfl
theorem j27 : (Rows.gossipNilRow.veiled == (Tryz.f3.params.toList ++ Rows.gossipNilSpec.plain.varTypes Tryz.prog ++ Tryz.f3.resultTypes.toList).any (Tryz.prog.veiledRec ·)) = true := by kernel_rfl
theorem j28 : Rows.gossipNilRow.veiledFits Tryz.prog Tryz.f3.params.toList (Tryz.f3.params.toList ++ Rows.gossipNilSpec.plain.varTypes Tryz.prog ++ Tryz.f3.resultTypes.toList) = true := by kernel_rfl
theorem closedFacts : joinedFacts Tryz.prog 3 Tryz.f3 Rows.gossipNilSpec Rows.gossipNilRow = true := by
  unfold joinedFacts
  exact and2 (and2 (and2 (and2 (and2 (and2 (and2 (and2 (and2 (and2 (and2 (and2 (and2 (and2 (and2 (and2 (and2 (and2 (and2 (and2 (and2 (and2 (and2 (and2 (and2 (and2 (and2 (and2 (and2 (and2 (and2 j1 laidOut) j3) j4) j5) rfl) j7) rfl) j9) j10) j11) j12) j13) j14) j15) j16) j17) j17b) rfl) j19) j20) j21) j22) rfl) j23b) j24) j24b) j24c) rfl) rfl) j27) j28
end Go.Proofs.YtdnbefdedopmkaaGreatDoor
