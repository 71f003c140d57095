/- The tie of the row: what it lists is what the program's own start-up text lays: the closed facts one by one. Printed by a program of this work. -/
import Derived.Test.YtdnbefdedopmkaaGreatDoorRows
import Derived.LaidByTextLater
import Derived.LaidOnce
namespace Go.Proofs.YtdnbefdedopmkaaGreatDoor
open Go
set_option maxRecDepth 100000
def tied : List (String × DataW Unit) := [("math/bits.deBruijn32tab", Rows.laid_math_bits_deBruijn32tab), ("math/bits.deBruijn64tab", Rows.laid_math_bits_deBruijn64tab), ("internal/strconv.float32info", Rows.laid_internal_strconv_float32info), ("internal/strconv.float64info", Rows.laid_internal_strconv_float64info), ("internal/strconv.optimize", Rows.laid_internal_strconv_optimize), ("internal/strconv.powtab", Rows.laid_internal_strconv_powtab), ("internal/strconv.float64pow10", Rows.laid_internal_strconv_float64pow10), ("internal/strconv.float32pow10", Rows.laid_internal_strconv_float32pow10), ("internal/strconv.uint64pow10", Rows.laid_internal_strconv_uint64pow10), ("unicode/utf8.acceptRanges", Rows.laid_unicode_utf8_acceptRanges), ("strconv.ErrRange", Rows.laid_strconv_ErrRange), ("strconv.ErrSyntax", Rows.laid_strconv_ErrSyntax), ("estuary/digest.squares", Rows.laid_estuary_digest_squares), ("estuary/digest.cubes", Rows.laid_estuary_digest_cubes)]
def tiedKinds : List LaidKind := [.data, .data, .widerDeep, .widerDeep, .data, .data, .data, .data, .data, .data, .sentinel, .sentinel, .data, .data]
theorem doorIs : Tryz.prog.funcNamed "gosem.cut.vars" = some 725 := by kernel_rfl
theorem varsIdIs : varsId Tryz.prog = 725 := by
  unfold varsId
  rw [doorIs]
  rfl
theorem wordHere : Tryz.prog.worded (varsWordLater true) = true := by kernel_rfl
theorem wordOther : Tryz.prog.worded (varsWordLater !true) = false := by kernel_rfl
theorem wordRoot : Tryz.prog.worded rootWordLater = true := by kernel_rfl
theorem kind0 : Tryz.prog.kindOfLater "math/bits.deBruijn32tab" = some .data := by kernel_rfl
theorem kind1 : Tryz.prog.kindOfLater "math/bits.deBruijn64tab" = some .data := by kernel_rfl
theorem kind2 : Tryz.prog.kindOfLater "internal/strconv.float32info" = some .widerDeep := by kernel_rfl
theorem kind3 : Tryz.prog.kindOfLater "internal/strconv.float64info" = some .widerDeep := by kernel_rfl
theorem kind4 : Tryz.prog.kindOfLater "internal/strconv.optimize" = some .data := by kernel_rfl
theorem kind5 : Tryz.prog.kindOfLater "internal/strconv.powtab" = some .data := by kernel_rfl
theorem kind6 : Tryz.prog.kindOfLater "internal/strconv.float64pow10" = some .data := by kernel_rfl
theorem kind7 : Tryz.prog.kindOfLater "internal/strconv.float32pow10" = some .data := by kernel_rfl
theorem kind8 : Tryz.prog.kindOfLater "internal/strconv.uint64pow10" = some .data := by kernel_rfl
theorem kind9 : Tryz.prog.kindOfLater "unicode/utf8.acceptRanges" = some .data := by kernel_rfl
theorem kind10 : Tryz.prog.kindOfLater "strconv.ErrRange" = some .sentinel := by kernel_rfl
theorem kind11 : Tryz.prog.kindOfLater "strconv.ErrSyntax" = some .sentinel := by kernel_rfl
theorem kind12 : Tryz.prog.kindOfLater "estuary/digest.squares" = some .data := by kernel_rfl
theorem kind13 : Tryz.prog.kindOfLater "estuary/digest.cubes" = some .data := by kernel_rfl
theorem kindsAre : tied.map (fun x => Tryz.prog.kindOfLater x.1) = tiedKinds.map some := by
  simp only [tied, tiedKinds, List.map_cons, List.map_nil, kind0, kind1, kind2, kind3, kind4, kind5, kind6, kind7, kind8, kind9, kind10, kind11, kind12, kind13]
theorem namedAll : varsNamedLaterB Tryz.prog (varsId Tryz.prog) tied = true := by
  rw [varsIdIs]
  kernel_rfl
theorem doorRun (os : Os) (tape : Tape) : doorLeaves Tryz.prog 111 8 65 tied os tape = some (tied.filter fun x => x.2.handleName?.isNone, (funcsListed tied).map (·.2.funcsOut)) := by
  unfold doorLeaves
  rw [varsIdIs]
  kernel_rfl
theorem tieIs : Tryz.prog.laidByTextLater tied tiedKinds true :=
  Program.laidByTextLater_by_one 111 8 65 wordHere wordOther wordRoot kindsAre (by rw [doorIs]; rfl) namedAll doorRun
end Go.Proofs.YtdnbefdedopmkaaGreatDoor
