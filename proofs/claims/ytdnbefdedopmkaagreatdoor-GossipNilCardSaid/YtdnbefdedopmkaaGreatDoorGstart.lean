/- A start that meets the row: the listed tables laid by a function, the two sentinel errors by hand. -/
import Derived.Test.YtdnbefdedopmkaaGreatDoorRows
import Derived.Lay
import Derived.Conc.HoldsTime
namespace Go.Proofs.YtdnbefdedopmkaaGreatDoor
open Go
set_option maxRecDepth 100000

def argZ : Array Value := #[.agg #[.int .u8 0, .int .i64 0, .int .i64 0, .int .i64 0, .slice none 0 0, .slice none 0 0], .int .i64 0]
/-- The settled world with the two errors' texts in two new blocks. -/
noncomputable def base (os : Os) : World := { World.holding Tryz.prog os ⟨#[], #[], []⟩ with heap :=
  (((World.holding Tryz.prog os ⟨#[], #[], []⟩).heap.setIfInBounds 10 (.cells #[.iface 706 (.pointer (some ⟨24, 0, none⟩))] 539)).setIfInBounds 9 (.cells #[.iface 706 (.pointer (some ⟨25, 0, none⟩))] 539)) ++
  #[.cells #[.string ⟨#[118, 97, 108, 117, 101, 32, 111, 117, 116, 32, 111, 102, 32, 114, 97, 110, 103, 101]⟩] 708, .cells #[.string ⟨#[105, 110, 118, 97, 108, 105, 100, 32, 115, 121, 110, 116, 97, 120]⟩] 708] }
def greatNames : List String := (Rows.gossipNilRow.laid.map (·.1)).filter fun n => n != "strconv.ErrRange" && n != "strconv.ErrSyntax"
noncomputable abbrev great : List (String × DataW Unit) := Rows.gossipNilRow.laid.filter fun x => greatNames.contains x.1
noncomputable abbrev small : List (String × DataW Unit) := Rows.gossipNilRow.laid.filter fun x => !greatNames.contains x.1
noncomputable def laidW (os : Os) : World := (base os).layVars Tryz.prog great
noncomputable abbrev start (os : Os) : World := (laidW os).forCall (fun _ _ => 0) ⟨#[], argZ, []⟩
theorem startFits (os : Os) : (base os).layFits Tryz.prog great [10, 9, 24, 25] = true := by kernel_rfl
theorem startIfaces (os : Os) : (base os).layIfaces Tryz.prog great (laidW os) = true := by kernel_rfl
theorem smallRun (os : Os) : (DataW.laidRun Tryz.prog (laidW os) 8 (small.map (·.1))).map (·.1) = some small := by kernel_rfl
theorem smallOnce (os : Os) : (DataW.laidRun Tryz.prog (laidW os) 8 (small.map (·.1))).map (fun x => nodupB (x.2.map MemPlace.codeOf)) = some true := by kernel_rfl
theorem smallRows (os : Os) : (DataW.laidRun Tryz.prog (laidW os) 8 (small.map (·.1))).map (fun x => laidRowsB Tryz.prog (laidW os) x.2) = some true := by kernel_rfl
theorem smallIn (os : Os) : (DataW.laidRun Tryz.prog (laidW os) 8 (small.map (·.1))).map (fun x => x.2.all fun p => ([10, 9, 24, 25] : List Nat).contains p.block) = some true := by kernel_rfl
theorem laidWMet (os : Os) : laidMet Tryz.prog Rows.gossipNilRow.laid (laidW os) :=
  laidMet_layVars (w0 := base os) greatNames [10, 9, 24, 25] rfl (startFits os) (startIfaces os) (LaidIn.of_run _ 8 (smallRun os) (smallOnce os) (smallRows os) (smallIn os))
theorem startMet (os : Os) : laidMet Tryz.prog Rows.gossipNilRow.laid (start os).memory :=
  (laidWMet os).of_heap (by simp [World.memory, World.forCall, Input.heap])
theorem noHandles : (Rows.gossipNilRow.laid.filter fun x => x.2.handleName?.isSome) = [] := by kernel_rfl
theorem startMetH (os : Os) : laidMetH Tryz.prog Rows.gossipNilRow.laid (start os).memory := by
  unfold laidMetH
  rw [noHandles]
  exact startMet os
theorem startOs (os : Os) : (laidW os).os = os := World.layVars_os _ _ _
theorem startRest (os : Os) : ((start os).heap.toList.drop Tryz.prog.globals.size).take ((begin Tryz.prog (fun _ _ => 0) default).world.heap.size - Tryz.prog.globals.size) = (begin Tryz.prog (fun _ _ => 0) default).world.heap.toList.drop Tryz.prog.globals.size := by kernel_rfl
theorem startOk (os : Os) : Input.okWideB Tryz.prog (start os) 3 ⟨#[], argZ, []⟩ = true := by kernel_rfl
theorem startReads (os : Os) {H : Type} (enc : TypeId × Value → H) : DataW.whole enc Tryz.prog (start os).memory Tryz.f3.params.toList Rows.gossipNilSpec.vars false argZ.toList 8 = some ([.agg [.lit (.int .u8 0), .lit (.int .i64 0), .lit (.int .i64 0), .lit (.int .i64 0), .nil, .nil], .lit (.int .i64 0)], [], []) := by kernel_rfl
theorem startSized (os : Os) {H : Type} (enc : TypeId × Value → H) : (OpenSpec.ofChange Rows.gossipNilSpec).bare.sizedB enc Tryz.prog Tryz.f3 false (start os).memory argZ 8 = true := by kernel_rfl
theorem startZip (os : Os) : (start os).variablesZipB Tryz.prog = true := by kernel_rfl
theorem startShaped (os : Os) : (start os).Shaped Tryz.prog := World.shaped_of_ZipB (startZip os) (startRest os)
end Go.Proofs.YtdnbefdedopmkaaGreatDoor
