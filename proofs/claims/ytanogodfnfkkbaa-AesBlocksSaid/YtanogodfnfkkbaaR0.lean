/- Own text of this seat (R0): lemmas on the way to the statement; no condition of its own. -/
import Derived.Test.YtanogodfnfkkbaaA7
import Derived.Test.YtanogodfnfkkbaaEng10
import Derived.Test.YtanogodfnfkkbaaAesRef
set_option linter.unusedVariables false
namespace Go.Proofs.Ytanogodfnfkkbaa
open Go Go.E
theorem cal11 : Callable Try.prog 11 := ⟨Try.f11, Try.func11, rfl, by kernel_rfl⟩
theorem cal12 : Callable Try.prog 12 := ⟨Try.f12, Try.func12, rfl, by kernel_rfl⟩
theorem cal13 : Callable Try.prog 13 := ⟨Try.f13, Try.func13, rfl, by kernel_rfl⟩
theorem cal16 : Callable Try.prog 16 := ⟨Try.f16, Try.func16, rfl, by kernel_rfl⟩
theorem cal17 : Callable Try.prog 17 := ⟨Try.f17, Try.func17, rfl, by kernel_rfl⟩
theorem cal19 : Callable Try.prog 19 := ⟨Try.f19, Try.func19, rfl, by kernel_rfl⟩
theorem cal21 : Callable Try.prog 21 := ⟨Try.f21, Try.func21, rfl, by kernel_rfl⟩
theorem cal28 : Callable Try.prog 28 := ⟨Try.f28, Try.func28, rfl, by kernel_rfl⟩
theorem cal29 : Callable Try.prog 29 := ⟨Try.f29, Try.func29, rfl, by kernel_rfl⟩
theorem cal30 : Callable Try.prog 30 := ⟨Try.f30, Try.func30, rfl, by kernel_rfl⟩
end Go.Proofs.Ytanogodfnfkkbaa
