/- Lemmas on the way to the statement; no condition of its own. -/
import Derived.Test.YtcmgimicdcchlaaGreatDoorQE2
import Derived.Test.YtcmgimicdcchlaaGreatDoorZL4
set_option linter.unusedVariables false
set_option maxRecDepth 20000
namespace Go.Proofs.YtcmgimicdcchlaaGreatDoor
open Go.Proofs.Tryz
open Go Go.E
theorem et94 : ET Tryz.prog 94 30 (.slice none 0 0) 1 24 := ⟨underlying94, by kernel_rfl⟩
theorem et117 : ET Tryz.prog 117 3 (.int .i64 0) 1 8 := ⟨underlying117, by kernel_rfl⟩
theorem et114 : ET Tryz.prog 114 113 (.agg #[.int .i64 0, .slice none 0 0]) 2 32 := ⟨underlying114, by kernel_rfl⟩
theorem zFld : (Tryz.prog.info? 113).map (·.zero) = some (some (.agg #[.int .i64 0, .slice none 0 0])) := by kernel_rfl
theorem one2 {x : Int} {a : Option Addr} {i j : Nat} : ∀ v ∈ (#[.int .i64 x, .slice a i j] : Array Value).toList, v.oneCell' = true := by
  intro v hv
  simp at hv
  rcases hv with rfl | rfl <;> rfl
theorem zTk : (Tryz.prog.info? 57).map (·.zero) = some (some (.agg #[Go.E.str [], Go.E.str [], .slice none 0 0, .int .i64 0, .int .i64 0, .int .i64 0, .int .i64 0])) := by kernel_rfl
theorem zAu : (Tryz.prog.info? 67).map (·.zero) = some (some (.agg #[Go.E.str [], .int .i64 0, .int .i64 0])) := by kernel_rfl
theorem one7 {c s : List UInt8} {a : Option Addr} {i j : Nat} {x y z w : Int} : ∀ v ∈ (#[Go.E.str c, Go.E.str s, .slice a i j, .int .i64 x, .int .i64 y, .int .i64 z, .int .i64 w] : Array Value).toList, v.oneCell' = true := by
  intro v hv
  simp at hv
  rcases hv with rfl | rfl | rfl | rfl | rfl | rfl | rfl <;> rfl
theorem one3 {c : List UInt8} {x y : Int} : ∀ v ∈ (#[Go.E.str c, .int .i64 x, .int .i64 y] : Array Value).toList, v.oneCell' = true := by
  intro v hv
  simp at hv
  rcases hv with rfl | rfl | rfl <;> rfl
theorem sz3 : (Tryz.prog.info? 3).map (·.size) = some 1 := by kernel_rfl
theorem sz9 : (Tryz.prog.info? 9).map (·.size) = some 1 := by kernel_rfl
theorem sz57 : (Tryz.prog.info? 57).map (·.size) = some 7 := by kernel_rfl
theorem sz67 : (Tryz.prog.info? 67).map (·.size) = some 3 := by kernel_rfl
theorem sz86 : (Tryz.prog.info? 86).map (·.size) = some 1 := by kernel_rfl
theorem sz113 : (Tryz.prog.info? 113).map (·.size) = some 2 := by kernel_rfl
theorem sz124 : (Tryz.prog.info? 124).map (·.size) = some 1 := by kernel_rfl
theorem sz190 : (Tryz.prog.info? 190).map (·.size) = some 1 := by kernel_rfl
theorem z154 : (Tryz.prog.info? 154).map (·.zero) = some (some (.agg (bs (List.replicate 8 0)))) := by kernel_rfl
theorem cal24 : Callable Tryz.prog 24 := ⟨Tryz.f24, func24, rfl, by kernel_rfl⟩
theorem cal32 : Callable Tryz.prog 32 := ⟨Tryz.f32, func32, rfl, by kernel_rfl⟩
theorem cal33 : Callable Tryz.prog 33 := ⟨Tryz.f33, func33, rfl, by kernel_rfl⟩
theorem cal35 : Callable Tryz.prog 35 := ⟨Tryz.f35, func35, rfl, by kernel_rfl⟩
theorem cal36 : Callable Tryz.prog 36 := ⟨Tryz.f36, func36, rfl, by kernel_rfl⟩
theorem cal38 : Callable Tryz.prog 38 := ⟨Tryz.f38, func38, rfl, by kernel_rfl⟩
theorem cal39 : Callable Tryz.prog 39 := ⟨Tryz.f39, func39, rfl, by kernel_rfl⟩
theorem cal40 : Callable Tryz.prog 40 := ⟨Tryz.f40, func40, rfl, by kernel_rfl⟩
theorem cal43 : Callable Tryz.prog 43 := ⟨Tryz.f43, func43, rfl, by kernel_rfl⟩
theorem cal44 : Callable Tryz.prog 44 := ⟨Tryz.f44, func44, rfl, by kernel_rfl⟩
theorem cal45 : Callable Tryz.prog 45 := ⟨Tryz.f45, func45, rfl, by kernel_rfl⟩
theorem cal46 : Callable Tryz.prog 46 := ⟨Tryz.f46, func46, rfl, by kernel_rfl⟩
theorem cal47 : Callable Tryz.prog 47 := ⟨Tryz.f47, func47, rfl, by kernel_rfl⟩
theorem cal48 : Callable Tryz.prog 48 := ⟨Tryz.f48, func48, rfl, by kernel_rfl⟩
theorem cal74 : Callable Tryz.prog 74 := ⟨Tryz.f74, func74, rfl, by kernel_rfl⟩
theorem cal75 : Callable Tryz.prog 75 := ⟨Tryz.f75, func75, rfl, by kernel_rfl⟩
theorem cal76 : Callable Tryz.prog 76 := ⟨Tryz.f76, func76, rfl, by kernel_rfl⟩
theorem cal77 : Callable Tryz.prog 77 := ⟨Tryz.f77, func77, rfl, by kernel_rfl⟩
theorem cal79 : Callable Tryz.prog 79 := ⟨Tryz.f79, func79, rfl, by kernel_rfl⟩
theorem cal80 : Callable Tryz.prog 80 := ⟨Tryz.f80, func80, rfl, by kernel_rfl⟩
theorem cal81 : Callable Tryz.prog 81 := ⟨Tryz.f81, func81, rfl, by kernel_rfl⟩
theorem cal82 : Callable Tryz.prog 82 := ⟨Tryz.f82, func82, rfl, by kernel_rfl⟩
theorem cal85 : Callable Tryz.prog 85 := ⟨Tryz.f85, func85, rfl, by kernel_rfl⟩
theorem cal87 : Callable Tryz.prog 87 := ⟨Tryz.f87, func87, rfl, by kernel_rfl⟩
theorem cal88 : Callable Tryz.prog 88 := ⟨Tryz.f88, func88, rfl, by kernel_rfl⟩
theorem cal89 : Callable Tryz.prog 89 := ⟨Tryz.f89, func89, rfl, by kernel_rfl⟩
theorem cal90 : Callable Tryz.prog 90 := ⟨Tryz.f90, func90, rfl, by kernel_rfl⟩
theorem cal91 : Callable Tryz.prog 91 := ⟨Tryz.f91, func91, rfl, by kernel_rfl⟩
theorem cal95 : Callable Tryz.prog 95 := ⟨Tryz.f95, func95, rfl, by kernel_rfl⟩
theorem cal96 : Callable Tryz.prog 96 := ⟨Tryz.f96, func96, rfl, by kernel_rfl⟩
theorem cal109 : Callable Tryz.prog 109 := ⟨Tryz.f109, func109, rfl, by kernel_rfl⟩
theorem cal110 : Callable Tryz.prog 110 := ⟨Tryz.f110, func110, rfl, by kernel_rfl⟩
theorem cal111 : Callable Tryz.prog 111 := ⟨Tryz.f111, func111, rfl, by kernel_rfl⟩
theorem cal112 : Callable Tryz.prog 112 := ⟨Tryz.f112, func112, rfl, by kernel_rfl⟩
theorem cal113 : Callable Tryz.prog 113 := ⟨Tryz.f113, func113, rfl, by kernel_rfl⟩
theorem cal115 : Callable Tryz.prog 115 := ⟨Tryz.f115, func115, rfl, by kernel_rfl⟩
theorem cal116 : Callable Tryz.prog 116 := ⟨Tryz.f116, func116, rfl, by kernel_rfl⟩
theorem cal117 : Callable Tryz.prog 117 := ⟨Tryz.f117, func117, rfl, by kernel_rfl⟩
theorem cal118 : Callable Tryz.prog 118 := ⟨Tryz.f118, func118, rfl, by kernel_rfl⟩
theorem cal119 : Callable Tryz.prog 119 := ⟨Tryz.f119, func119, rfl, by kernel_rfl⟩
theorem cal125 : Callable Tryz.prog 125 := ⟨Tryz.f125, func125, rfl, by kernel_rfl⟩
theorem cal135 : Callable Tryz.prog 135 := ⟨Tryz.f135, func135, rfl, by kernel_rfl⟩
theorem cal144 : Callable Tryz.prog 144 := ⟨Tryz.f144, func144, rfl, by kernel_rfl⟩
theorem cal145 : Callable Tryz.prog 145 := ⟨Tryz.f145, func145, rfl, by kernel_rfl⟩
theorem cal148 : Callable Tryz.prog 148 := ⟨Tryz.f148, func148, rfl, by kernel_rfl⟩
theorem cal150 : Callable Tryz.prog 150 := ⟨Tryz.f150, func150, rfl, by kernel_rfl⟩
theorem cal163 : Callable Tryz.prog 163 := ⟨Tryz.f163, func163, rfl, by kernel_rfl⟩
theorem cal164 : Callable Tryz.prog 164 := ⟨Tryz.f164, func164, rfl, by kernel_rfl⟩
theorem cal165 : Callable Tryz.prog 165 := ⟨Tryz.f165, func165, rfl, by kernel_rfl⟩
theorem cal173 : Callable Tryz.prog 173 := ⟨Tryz.f173, func173, rfl, by kernel_rfl⟩
theorem cal174 : Callable Tryz.prog 174 := ⟨Tryz.f174, func174, rfl, by kernel_rfl⟩
theorem cal175 : Callable Tryz.prog 175 := ⟨Tryz.f175, func175, rfl, by kernel_rfl⟩
theorem cal176 : Callable Tryz.prog 176 := ⟨Tryz.f176, func176, rfl, by kernel_rfl⟩
end Go.Proofs.YtcmgimicdcchlaaGreatDoor
