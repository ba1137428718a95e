/- Lemmas on the way to the statement; no condition of its own. -/
import Derived.Test.YtcmgimicdcchlaaGreatDoorTick
set_option linter.unusedVariables false
namespace Go.Tick
def late (a b k : Int) : Prop := a < b ∧ max k 0 < b - a
instance (a b k : Int) : Decidable (late a b k) := by unfold late; infer_instance
def judge (c s : List UInt8) (f u : Int) (ac : List UInt8) (at_ : Int) (svc : List UInt8) (now k : Int) : Int :=
  if ¬ s = svc then 35 else if ¬ c = ac then 36 else if late at_ now k then 37 else if late now at_ k then 37 else if late now f k then 33 else if late u now k then 32 else 0
end Go.Tick
namespace Go.Tick
end Go.Tick
