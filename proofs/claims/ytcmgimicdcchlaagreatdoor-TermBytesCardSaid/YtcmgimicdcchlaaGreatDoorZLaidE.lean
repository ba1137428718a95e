/- Lemmas on the way to the statement; no condition of its own. -/
import Derived.Test.YtcmgimicdcchlaaGreatDoorZLaidG
import Derived.Test.YtcmgimicdcchlaaGreatDoorQH1
set_option linter.unusedVariables false
namespace Go.Proofs.YtcmgimicdcchlaaGreatDoor
open Go Go.E
theorem etE : Tryz.prog.globalNamed "errors.errorType" = some 0 := by kernel_rfl
theorem rtE : (Tryz.prog.cutTypes.find? (·.1 == "internal/reflectlite.rtype")).map (·.2) = some 211 := by kernel_rfl
theorem oneRowE : ((List.range 287).filter fun t => Tryz.prog.rowNamed t [101, 114, 114, 111, 114]) = [86] := by kernel_rfl
theorem sizeE : Tryz.prog.types.size = 287 := by kernel_rfl
theorem ge_of {W : World} (h : handlesMet Tryz.prog [("errors.errorType", Rows.laid_errors_errorType)] W) : GE (PH.all W) := by
  obtain ⟨name, u, ty, e1, e2, e3, e4, e5⟩ := h _ (List.mem_singleton.2 rfl)
  have en : name = [101, 114, 114, 111, 114] := (Option.some.inj e1).symm
  subst en
  obtain rfl := Option.some.inj (rtE.symm.trans e2)
  have hm : ty ∈ (List.range 287).filter fun t => Tryz.prog.rowNamed t [101, 114, 114, 111, 114] := List.mem_filter.2 ⟨List.mem_range.2 (by rw [← sizeE]; exact e3), e4⟩
  rw [oneRowE] at hm
  obtain rfl := List.mem_singleton.1 hm
  have hh : typeHandle Tryz.prog 86 = .pointer (some ⟨5, 86, none⟩) := by kernel_rfl
  rw [hh] at e5
  exact var_heap etE e5
theorem ge_laid {W : World} (h : laidMetH Tryz.prog Rows.termBytesRow.laid W) : GE (PH.all W) := by
  have h' : laidMet Tryz.prog [("math/bits.deBruijn32tab", Rows.laid_math_bits_deBruijn32tab), ("math/bits.deBruijn64tab", Rows.laid_math_bits_deBruijn64tab), ("internal/strconv.uint64pow10", Rows.laid_internal_strconv_uint64pow10), ("seneschal/sha.constants", Rows.laid_seneschal_sha_constants)] W ∧ handlesMet Tryz.prog [("errors.errorType", Rows.laid_errors_errorType)] W := h
  exact ge_of h'.2
end Go.Proofs.YtcmgimicdcchlaaGreatDoor
