/- Lemmas on the way to the statement; no condition of its own. -/
import Derived.Test.YtcmgimicdcchlaaGreatDoorQP
set_option linter.unusedVariables false
set_option linter.unusedSimpArgs false
namespace Go.Tick
def be8 (n : Nat) : List UInt8 := (List.range 8).map fun i => UInt8.ofNat (n / 2 ^ (56 - 8 * i))
@[simp] theorem be8_length (n : Nat) : (be8 n).length = 8 := by simp [be8]
def hdr (j : Nat) (l : List UInt8) : List UInt8 := [UInt8.ofNat (j + 1), UInt8.ofNat (l.length / 2 ^ 8), UInt8.ofNat l.length]
def enc : Nat → List (List UInt8) → List UInt8
  | _, [] => []
  | j, l :: r => hdr j l ++ l ++ enc (j + 1) r
theorem enc_length (j : Nat) (ls : List (List UInt8)) : (enc j ls).length = (ls.map fun l => l.length + 3).sum := by
  induction ls generalizing j with
  | nil => rfl
  | cons l r ih => rw [enc, List.length_append, List.length_append, ih]; simp [hdr]; omega
def head (ls : List (List UInt8)) (j : Nat) : List UInt8 := enc 0 (ls.take j)
def okName (l : List UInt8) : Prop := 1 ≤ l.length ∧ l.length ≤ 32
def okTime (n : Int) : Prop := 0 ≤ n ∧ n ≤ 1099511627776
end Go.Tick
namespace Go.Tick
end Go.Tick
namespace Go.Tick
end Go.Tick
