/- Lemmas on the way to the statement; no condition of its own. -/
import Derived.Test.YtcmgimicdcchlaaGreatDoorTick
set_option linter.unusedVariables false
namespace Go.Tick
def late (a b k : Int) : Prop := a < b ∧ max k 0 < b - a
instance (a b k : Int) : Decidable (late a b k) := by unfold late; infer_instance
end Go.Tick
namespace Go.Tick
end Go.Tick
