/- Lemmas on the way to the statement; no condition of its own. -/
import Derived.Test.YtcmgimicdcchlaaGreatDoorQP
import Derived.Test.YtcmgimicdcchlaaGreatDoorTick3
set_option linter.unusedVariables false
namespace Go.Tick
def okAuth (c : List UInt8) (t : Int) : Prop := okName c ∧ okTime t
instance (l : List UInt8) : Decidable (okName l) := by unfold okName; infer_instance
instance (n : Int) : Decidable (okTime n) := by unfold okTime; infer_instance
instance (c : List UInt8) (t : Int) : Decidable (okAuth c t) := by unfold okAuth; infer_instance
end Go.Tick
namespace Go.Tick
theorem ofNat_mod (n : Nat) : UInt8.ofNat (n % 256) = UInt8.ofNat n := by
  apply UInt8.toNat_inj.1
  rw [UInt8.toNat_ofNat', UInt8.toNat_ofNat']
  omega
end Go.Tick
