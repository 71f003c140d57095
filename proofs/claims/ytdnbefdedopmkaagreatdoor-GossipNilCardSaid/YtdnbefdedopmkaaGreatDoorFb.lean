/- The row's computed cells, by the closure. Printed by a program of this work. -/
import Derived.Test.YtdnbefdedopmkaaGreatDoorFa
namespace Go.Proofs.YtdnbefdedopmkaaGreatDoor
open Go
set_option maxRecDepth 100000
theorem inPlace0 : clo0.filterMap (fun g => (Tryz.prog.funcs[g]?).bind fun fn => if fn.ours || fn.body.isNone || fn.name == "runtime.NumGoroutine" then some fn.name else none) = ["(*internal/sync.Mutex).Lock", "internal/race.Disable", "sync/atomic.CompareAndSwapInt32", "internal/race.Enable", "internal/race.Acquire", "(*internal/sync.Mutex).lockSlow", "internal/sync.runtime_canSpin", "internal/sync.runtime_doSpin", "internal/sync.throw", "internal/sync.runtime_nanotime", "internal/sync.runtime_SemacquireMutex", "sync/atomic.AddInt32", "(*internal/sync.Mutex).Unlock", "internal/race.ReleaseMerge", "(*internal/sync.Mutex).unlockSlow", "internal/sync.fatal", "internal/sync.runtime_Semrelease", "(*sync.WaitGroup).Add", "internal/synctest.IsInBubble", "internal/synctest.Associate[sync.WaitGroup]", "sync.fatal", "sync/atomic.OrUint64", "sync/atomic.AddUint64", "internal/race.Read", "sync/atomic.LoadUint64", "sync/atomic.StoreUint64", "internal/synctest.Disassociate[sync.WaitGroup]", "sync.runtime_Semrelease", "(*sync.WaitGroup).Done"] := by kernel_rfl
theorem inPlace1 : clo1.filterMap (fun g => (Tryz.prog.funcs[g]?).bind fun fn => if fn.ours || fn.body.isNone || fn.name == "runtime.NumGoroutine" then some fn.name else none) = ["maps.clone", "math.Float64bits", "math.Float64frombits"] := by kernel_rfl
theorem inPlace2 : clo2.filterMap (fun g => (Tryz.prog.funcs[g]?).bind fun fn => if fn.ours || fn.body.isNone || fn.name == "runtime.NumGoroutine" then some fn.name else none) = ["internal/bytealg.IndexByteString", "internal/bytealg.IndexString", "internal/strconv.float32bits", "internal/strconv.float64bits"] := by kernel_rfl
theorem inPlace3 : clo3.filterMap (fun g => (Tryz.prog.funcs[g]?).bind fun fn => if fn.ours || fn.body.isNone || fn.name == "runtime.NumGoroutine" then some fn.name else none) = ["internal/bytealg.CountString", "internal/abi.NoEscape", "internal/bytealg.MakeNoZero", "internal/strconv.float64frombits", "internal/strconv.float32frombits"] := by kernel_rfl
theorem inPlace4 : clo4.filterMap (fun g => (Tryz.prog.funcs[g]?).bind fun fn => if fn.ours || fn.body.isNone || fn.name == "runtime.NumGoroutine" then some fn.name else none) = ["slices.overlaps[estuary/api.Hash]", "slices.overlaps[estuary/seq.element]"] := by kernel_rfl
theorem inPlace5 : clo5.filterMap (fun g => (Tryz.prog.funcs[g]?).bind fun fn => if fn.ours || fn.body.isNone || fn.name == "runtime.NumGoroutine" then some fn.name else none) = ["(*sync.WaitGroup).Wait", "internal/synctest.IsAssociated[sync.WaitGroup]", "sync/atomic.CompareAndSwapUint64", "internal/race.Write", "sync.runtime_SemacquireWaitGroup"] := by kernel_rfl
theorem inPlace6 : clo6.filterMap (fun g => (Tryz.prog.funcs[g]?).bind fun fn => if fn.ours || fn.body.isNone || fn.name == "runtime.NumGoroutine" then some fn.name else none) = [] := by kernel_rfl
theorem inPlaceIs : Tryz.prog.inPlace 3 = ["(*internal/sync.Mutex).Lock", "internal/race.Disable", "sync/atomic.CompareAndSwapInt32", "internal/race.Enable", "internal/race.Acquire", "(*internal/sync.Mutex).lockSlow", "internal/sync.runtime_canSpin", "internal/sync.runtime_doSpin", "internal/sync.throw", "internal/sync.runtime_nanotime", "internal/sync.runtime_SemacquireMutex", "sync/atomic.AddInt32", "(*internal/sync.Mutex).Unlock", "internal/race.ReleaseMerge", "(*internal/sync.Mutex).unlockSlow", "internal/sync.fatal", "internal/sync.runtime_Semrelease", "(*sync.WaitGroup).Add", "internal/synctest.IsInBubble", "internal/synctest.Associate[sync.WaitGroup]", "sync.fatal", "sync/atomic.OrUint64", "sync/atomic.AddUint64", "internal/race.Read", "sync/atomic.LoadUint64", "sync/atomic.StoreUint64", "internal/synctest.Disassociate[sync.WaitGroup]", "sync.runtime_Semrelease", "(*sync.WaitGroup).Done", "maps.clone", "math.Float64bits", "math.Float64frombits", "internal/bytealg.IndexByteString", "internal/bytealg.IndexString", "internal/strconv.float32bits", "internal/strconv.float64bits", "internal/bytealg.CountString", "internal/abi.NoEscape", "internal/bytealg.MakeNoZero", "internal/strconv.float64frombits", "internal/strconv.float32frombits", "slices.overlaps[estuary/api.Hash]", "slices.overlaps[estuary/seq.element]", "(*sync.WaitGroup).Wait", "internal/synctest.IsAssociated[sync.WaitGroup]", "sync/atomic.CompareAndSwapUint64", "internal/race.Write", "sync.runtime_SemacquireWaitGroup"] := by
  show (Tryz.prog.closure 3).filterMap (fun g => (Tryz.prog.funcs[g]?).bind fun fn => if fn.ours || fn.body.isNone || fn.name == "runtime.NumGoroutine" then some fn.name else none) = _
  rw [closureIs]
  unfold clo
  simp only [List.filterMap_append, inPlace0, inPlace1, inPlace2, inPlace3, inPlace4, inPlace5, inPlace6]
  rfl
theorem globals0 : clo0.flatMap (fun g => ((Tryz.prog.funcs[g]?).bind (·.body)).elim [] Code.globalsNamed) = [0, 5, 6] := by kernel_rfl
theorem globals1 : clo1.flatMap (fun g => ((Tryz.prog.funcs[g]?).bind (·.body)).elim [] Code.globalsNamed) = [2, 3] := by kernel_rfl
theorem globals2 : clo2.flatMap (fun g => ((Tryz.prog.funcs[g]?).bind (·.body)).elim [] Code.globalsNamed) = [8, 8, 8, 9, 10, 2, 3, 2, 3, 2, 3, 11, 12, 12] := by kernel_rfl
theorem globals3 : clo3.flatMap (fun g => ((Tryz.prog.funcs[g]?).bind (·.body)).elim [] Code.globalsNamed) = [0, 13, 13, 11, 14, 11, 14, 14, 16, 16, 16, 17, 17, 17, 17, 15, 11, 15, 15, 18, 18, 18] := by kernel_rfl
theorem globals4 : clo4.flatMap (fun g => ((Tryz.prog.funcs[g]?).bind (·.body)).elim [] Code.globalsNamed) = [1, 4] := by kernel_rfl
theorem globals5 : clo5.flatMap (fun g => ((Tryz.prog.funcs[g]?).bind (·.body)).elim [] Code.globalsNamed) = [] := by kernel_rfl
theorem globals6 : clo6.flatMap (fun g => ((Tryz.prog.funcs[g]?).bind (·.body)).elim [] Code.globalsNamed) = [] := by kernel_rfl
theorem reads0 : clo0.filterMap (fun g => (Tryz.prog.funcs[g]?).bind fun fn => if fn.body.isNone then entryReads.lookup fn.name else none) = [] := by kernel_rfl
theorem reads1 : clo1.filterMap (fun g => (Tryz.prog.funcs[g]?).bind fun fn => if fn.body.isNone then entryReads.lookup fn.name else none) = [] := by kernel_rfl
theorem reads2 : clo2.filterMap (fun g => (Tryz.prog.funcs[g]?).bind fun fn => if fn.body.isNone then entryReads.lookup fn.name else none) = ["internal/bytealg.MaxLen"] := by kernel_rfl
theorem reads3 : clo3.filterMap (fun g => (Tryz.prog.funcs[g]?).bind fun fn => if fn.body.isNone then entryReads.lookup fn.name else none) = [] := by kernel_rfl
theorem reads4 : clo4.filterMap (fun g => (Tryz.prog.funcs[g]?).bind fun fn => if fn.body.isNone then entryReads.lookup fn.name else none) = [] := by kernel_rfl
theorem reads5 : clo5.filterMap (fun g => (Tryz.prog.funcs[g]?).bind fun fn => if fn.body.isNone then entryReads.lookup fn.name else none) = [] := by kernel_rfl
theorem reads6 : clo6.filterMap (fun g => (Tryz.prog.funcs[g]?).bind fun fn => if fn.body.isNone then entryReads.lookup fn.name else none) = [] := by kernel_rfl
theorem globalsAll : (Tryz.prog.closure 3).flatMap (fun g => ((Tryz.prog.funcs[g]?).bind (·.body)).elim [] Code.globalsNamed) = [0, 5, 6, 2, 3, 8, 8, 8, 9, 10, 2, 3, 2, 3, 2, 3, 11, 12, 12, 0, 13, 13, 11, 14, 11, 14, 14, 16, 16, 16, 17, 17, 17, 17, 15, 11, 15, 15, 18, 18, 18, 1, 4] := by
  rw [closureIs]
  unfold clo
  simp only [List.flatMap_append, globals0, globals1, globals2, globals3, globals4, globals5, globals6]
  rfl
theorem readsAll : (Tryz.prog.closure 3).filterMap (fun g => (Tryz.prog.funcs[g]?).bind fun fn => if fn.body.isNone then entryReads.lookup fn.name else none) = ["internal/bytealg.MaxLen"] := by
  rw [closureIs]
  unfold clo
  simp only [List.filterMap_append, reads0, reads1, reads2, reads3, reads4, reads5, reads6]
  rfl
theorem namedIs : Tryz.prog.varsNamed 3 = ["internal/strconv.uint64pow10", "math/bits.deBruijn32tab", "math/bits.deBruijn64tab", "unicode/utf8.first", "unicode/utf8.acceptRanges", "internal/bytealg.MaxLen", "strconv.ErrSyntax", "strconv.ErrRange", "internal/strconv.optimize", "internal/strconv.pow10Tab", "internal/strconv.leftcheats", "internal/strconv.float32info", "internal/strconv.float32pow10", "internal/strconv.powtab", "internal/strconv.float64info", "internal/strconv.float64pow10", "estuary/digest.squares", "estuary/digest.cubes"] := by
  unfold Program.varsNamed
  rw [globalsAll, readsAll]
  kernel_rfl
theorem unfollowedIs : Tryz.prog.unfollowed 3 = true := by
  unfold Program.unfollowed
  rw [closureIs]
  exact List.any_eq_true.2 ⟨17, List.contains_iff_mem.1 (show clo.contains 17 = true by kernel_rfl), by kernel_rfl⟩
theorem recursesIs : Tryz.prog.recurses 3 = true := by
  unfold Program.recurses
  rw [unfollowedIs]
  rfl
theorem goesIs : Tryz.prog.goes 3 = true := by
  unfold Program.goes
  rw [closureIs]
  rw [show (clo.any fun g => (Tryz.prog.funcs[g]?).any Func.goes) = true from List.any_eq_true.2 ⟨17, List.contains_iff_mem.1 (show clo.contains 17 = true by kernel_rfl), by kernel_rfl⟩]
  rfl
end Go.Proofs.YtdnbefdedopmkaaGreatDoor
