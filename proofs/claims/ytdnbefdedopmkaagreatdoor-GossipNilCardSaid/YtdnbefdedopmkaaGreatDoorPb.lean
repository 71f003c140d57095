/- The tie of the row: what it lists is what the program's own start-up text lays: the closed facts one by one. Printed by a program of this work. -/
import Derived.Test.YtdnbefdedopmkaaGreatDoorPa
import Derived.SevenTiedAt
namespace Go.Proofs.YtdnbefdedopmkaaGreatDoor
open Go
set_option maxRecDepth 100000
theorem noOwn : Tryz.prog.headLifts.contains "ownunsafe" = false := by kernel_rfl
theorem listFits : Tryz.prog.listedFits [("math/bits.deBruijn32tab", Rows.laid_math_bits_deBruijn32tab), ("math/bits.deBruijn64tab", Rows.laid_math_bits_deBruijn64tab), ("internal/strconv.float32info", Rows.laid_internal_strconv_float32info), ("internal/strconv.float64info", Rows.laid_internal_strconv_float64info), ("internal/strconv.optimize", Rows.laid_internal_strconv_optimize), ("internal/strconv.powtab", Rows.laid_internal_strconv_powtab), ("internal/strconv.float64pow10", Rows.laid_internal_strconv_float64pow10), ("internal/strconv.float32pow10", Rows.laid_internal_strconv_float32pow10), ("internal/strconv.uint64pow10", Rows.laid_internal_strconv_uint64pow10), ("unicode/utf8.acceptRanges", Rows.laid_unicode_utf8_acceptRanges), ("strconv.ErrRange", Rows.laid_strconv_ErrRange), ("strconv.ErrSyntax", Rows.laid_strconv_ErrSyntax), ("estuary/digest.squares", Rows.laid_estuary_digest_squares), ("estuary/digest.cubes", Rows.laid_estuary_digest_cubes), ("internal/strconv.leftcheats", Rows.laid_internal_strconv_leftcheats), ("internal/strconv.pow10Tab", Rows.laid_internal_strconv_pow10Tab), ("unicode/utf8.first", Rows.laid_unicode_utf8_first)] = true := by
  unfold Program.listedFits
  rw [noOwn]
  kernel_rfl
theorem pin_laid_internal_strconv_leftcheats : Tryz.prog.pinnedFits "internal/strconv.leftcheats" = true := by
  unfold Program.pinnedFits
  rw [doorIs]
  kernel_rfl
theorem pin_laid_internal_strconv_pow10Tab : Tryz.prog.pinnedFits "internal/strconv.pow10Tab" = true := by
  unfold Program.pinnedFits
  rw [doorIs]
  kernel_rfl
theorem pin_laid_unicode_utf8_first : Tryz.prog.pinnedFits "unicode/utf8.first" = true := by
  unfold Program.pinnedFits
  rw [doorIs]
  kernel_rfl
theorem rowTie : Rows.gossipNilRow.laidByTextAt .later Tryz.pinned [.data, .data, .widerDeep, .widerDeep, .data, .data, .data, .data, .data, .data, .sentinel, .sentinel, .data, .data, .pinned, .pinned, .pinned] true :=
  OpenClaim.laidByTextAt_pinned rfl rfl tieIs rfl rfl rfl rfl (fun y hy _e => by
    simp only [Rows.gossipNilRow, List.zip_cons_cons, List.zip_nil_right, List.mem_cons, List.mem_nil_iff, or_false] at hy
    rcases hy with rfl | rfl | rfl | rfl | rfl | rfl | rfl | rfl | rfl | rfl | rfl | rfl | rfl | rfl | rfl | rfl | rfl
    · cases _e
    · cases _e
    · cases _e
    · cases _e
    · cases _e
    · cases _e
    · cases _e
    · cases _e
    · cases _e
    · cases _e
    · cases _e
    · cases _e
    · cases _e
    · cases _e
    · exact ⟨pin_laid_internal_strconv_leftcheats, by kernel_rfl⟩
    · exact ⟨pin_laid_internal_strconv_pow10Tab, by kernel_rfl⟩
    · exact ⟨pin_laid_unicode_utf8_first, by kernel_rfl⟩) listFits
end Go.Proofs.YtdnbefdedopmkaaGreatDoor
