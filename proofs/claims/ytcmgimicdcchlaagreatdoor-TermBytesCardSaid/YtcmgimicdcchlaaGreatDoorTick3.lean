/- Lemmas on the way to the statement; no condition of its own. -/
import Derived.Test.YtcmgimicdcchlaaGreatDoorTick
set_option linter.unusedVariables false
set_option linter.unusedSimpArgs false
namespace Go.Tick
def bits (n : Int) : Nat := (n % 18446744073709551616).toNat
def val (l : List UInt8) : Nat := l.foldl (fun n x => n * 256 + x.toNat) 0
end Go.Tick
