/- Own text of this seat (A0): lemmas on the way to the statement; no condition of its own. -/
import Derived.Test.YtanogodfnfkkbaaEng8
import Derived.Test.YtanogodfnfkkbaaAesInv
import Derived.Test.YtanogodfnfkkbaaProg
set_option linter.unusedVariables false
namespace Go.Proofs.Ytanogodfnfkkbaa
open Go Go.E
theorem mixed : Try.prog.follows .mixedOrders = true := by kernel_rfl
theorem sz5 : (Try.prog.info? 5).map (·.size) = some 1 := by kernel_rfl
theorem sz29 : (Try.prog.info? 29).map (·.size) = some 16 := by kernel_rfl
theorem sz36 : (Try.prog.info? 36).map (·.size) = some 176 := by kernel_rfl
theorem sz41 : (Try.prog.info? 41).map (·.size) = some 256 := by kernel_rfl
theorem sz49 : (Try.prog.info? 49).map (·.size) = some 4 := by kernel_rfl
theorem sz54 : (Try.prog.info? 54).map (·.size) = some 16 := by kernel_rfl
theorem z29 : (Try.prog.info? 29).map (·.zero) = some (some (.agg (bs (List.replicate 16 0)))) := by kernel_rfl
theorem z36 : (Try.prog.info? 36).map (·.zero) = some (some (.agg (bs (List.replicate 176 0)))) := by kernel_rfl
theorem z41 : (Try.prog.info? 41).map (·.zero) = some (some (.agg (bs (List.replicate 256 0)))) := by kernel_rfl
theorem z49 : (Try.prog.info? 49).map (·.zero) = some (some (.agg (bs (List.replicate 4 0)))) := by kernel_rfl
theorem z54 : (Try.prog.info? 54).map (·.zero) = some (some (.agg (bs (List.replicate 16 0)))) := by kernel_rfl
theorem cal8 : Callable Try.prog 8 := ⟨Try.f8, Try.func8, rfl, by kernel_rfl⟩
theorem cal9 : Callable Try.prog 9 := ⟨Try.f9, Try.func9, rfl, by kernel_rfl⟩
theorem cal10 : Callable Try.prog 10 := ⟨Try.f10, Try.func10, rfl, by kernel_rfl⟩
theorem cal14 : Callable Try.prog 14 := ⟨Try.f14, Try.func14, rfl, by kernel_rfl⟩
theorem cal15 : Callable Try.prog 15 := ⟨Try.f15, Try.func15, rfl, by kernel_rfl⟩
theorem cal18 : Callable Try.prog 18 := ⟨Try.f18, Try.func18, rfl, by kernel_rfl⟩
theorem cal20 : Callable Try.prog 20 := ⟨Try.f20, Try.func20, rfl, by kernel_rfl⟩
theorem cal22 : Callable Try.prog 22 := ⟨Try.f22, Try.func22, rfl, by kernel_rfl⟩
theorem cal23 : Callable Try.prog 23 := ⟨Try.f23, Try.func23, rfl, by kernel_rfl⟩
theorem cal24 : Callable Try.prog 24 := ⟨Try.f24, Try.func24, rfl, by kernel_rfl⟩
theorem cal25 : Callable Try.prog 25 := ⟨Try.f25, Try.func25, rfl, by kernel_rfl⟩
theorem cal26 : Callable Try.prog 26 := ⟨Try.f26, Try.func26, rfl, by kernel_rfl⟩
theorem cal27 : Callable Try.prog 27 := ⟨Try.f27, Try.func27, rfl, by kernel_rfl⟩
theorem cal31 : Callable Try.prog 31 := ⟨Try.f31, Try.func31, rfl, by kernel_rfl⟩
theorem et26 : ET Try.prog 26 5 (byte 0) 1 1 := ⟨Try.underlying26, by kernel_rfl⟩
end Go.Proofs.Ytanogodfnfkkbaa
