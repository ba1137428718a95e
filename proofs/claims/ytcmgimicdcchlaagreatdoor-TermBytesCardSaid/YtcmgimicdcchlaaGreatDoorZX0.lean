/- Lemmas on the way to the statement; no condition of its own. -/
import Derived.Test.YtcmgimicdcchlaaGreatDoorQE2
import Derived.Test.YtcmgimicdcchlaaGreatDoorZL4
set_option linter.unusedVariables false
set_option maxRecDepth 20000
namespace Go.Proofs.YtcmgimicdcchlaaGreatDoor
open Go.Proofs.Tryz
open Go Go.E
theorem et94 : ET Tryz.prog 94 30 (.slice none 0 0) 1 24 := ⟨underlying94, by kernel_rfl⟩
theorem sz3 : (Tryz.prog.info? 3).map (·.size) = some 1 := by kernel_rfl
theorem sz9 : (Tryz.prog.info? 9).map (·.size) = some 1 := by kernel_rfl
theorem sz124 : (Tryz.prog.info? 124).map (·.size) = some 1 := by kernel_rfl
theorem cal24 : Callable Tryz.prog 24 := ⟨Tryz.f24, func24, rfl, by kernel_rfl⟩
theorem cal36 : Callable Tryz.prog 36 := ⟨Tryz.f36, func36, rfl, by kernel_rfl⟩
theorem cal88 : Callable Tryz.prog 88 := ⟨Tryz.f88, func88, rfl, by kernel_rfl⟩
theorem cal90 : Callable Tryz.prog 90 := ⟨Tryz.f90, func90, rfl, by kernel_rfl⟩
theorem cal95 : Callable Tryz.prog 95 := ⟨Tryz.f95, func95, rfl, by kernel_rfl⟩
theorem cal96 : Callable Tryz.prog 96 := ⟨Tryz.f96, func96, rfl, by kernel_rfl⟩
theorem cal109 : Callable Tryz.prog 109 := ⟨Tryz.f109, func109, rfl, by kernel_rfl⟩
theorem cal110 : Callable Tryz.prog 110 := ⟨Tryz.f110, func110, rfl, by kernel_rfl⟩
theorem cal125 : Callable Tryz.prog 125 := ⟨Tryz.f125, func125, rfl, by kernel_rfl⟩
theorem cal135 : Callable Tryz.prog 135 := ⟨Tryz.f135, func135, rfl, by kernel_rfl⟩
theorem cal144 : Callable Tryz.prog 144 := ⟨Tryz.f144, func144, rfl, by kernel_rfl⟩
theorem cal145 : Callable Tryz.prog 145 := ⟨Tryz.f145, func145, rfl, by kernel_rfl⟩
theorem cal163 : Callable Tryz.prog 163 := ⟨Tryz.f163, func163, rfl, by kernel_rfl⟩
theorem cal164 : Callable Tryz.prog 164 := ⟨Tryz.f164, func164, rfl, by kernel_rfl⟩
theorem cal165 : Callable Tryz.prog 165 := ⟨Tryz.f165, func165, rfl, by kernel_rfl⟩
theorem cal173 : Callable Tryz.prog 173 := ⟨Tryz.f173, func173, rfl, by kernel_rfl⟩
theorem cal174 : Callable Tryz.prog 174 := ⟨Tryz.f174, func174, rfl, by kernel_rfl⟩
theorem cal175 : Callable Tryz.prog 175 := ⟨Tryz.f175, func175, rfl, by kernel_rfl⟩
theorem cal176 : Callable Tryz.prog 176 := ⟨Tryz.f176, func176, rfl, by kernel_rfl⟩
end Go.Proofs.YtcmgimicdcchlaaGreatDoor
