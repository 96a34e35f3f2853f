/- What the listed tables give the walks: strconv's powers of ten. -/
import Derived.Test.YtdfndbegifdejaaDoorRows
import Derived.Test.YtdfndbegifdejaaDoorPrt
import Derived.Stop.LaidErr
import Derived.Lib.LaidTab
import Derived.LaidHandle
import Derived.Test.YtdfndbegifdejaaDoorWWords
namespace Go.Proofs.YtdfndbegifdejaaDoor.GD
open Go.Proofs.YtdfndbegifdejaaDoorW.PrintWords
theorem gPow : Tryd.prog.globalNamed "internal/strconv.uint64pow10" = some 1 := by kernel_rfl
theorem gPowType : (Tryd.prog.globals[1]?).map (·.type) = some 134 := by kernel_rfl
theorem cells134 : Tryd.prog.cellsOf 134 = 20 := by kernel_rfl
theorem cells84 : Tryd.prog.cellsOf 84 = 1 := by kernel_rfl
theorem tabs {W : World} (h : laidMetH Tryd.prog Rows.flowPrintsRow.laid W) : Aside0 (ItoaTab W) := by
  have h1 : laidMet Tryd.prog [("math/bits.deBruijn32tab", Rows.laid_math_bits_deBruijn32tab), ("math/bits.deBruijn64tab", Rows.laid_math_bits_deBruijn64tab), ("internal/strconv.uint64pow10", Rows.laid_internal_strconv_uint64pow10)] W := h
  have h2 : laidMet Tryd.prog [("internal/strconv.uint64pow10", Lib.tabData .u64 Lib.pow10Tab)] W := h1.tail.tail
  exact ⟨Lib.tabIs_of_head (rest := []) gPow gPowType Tryd.underlying134 Tryd.underlying84 cells84 cells134 h2⟩
end Go.Proofs.YtdfndbegifdejaaDoor.GD
