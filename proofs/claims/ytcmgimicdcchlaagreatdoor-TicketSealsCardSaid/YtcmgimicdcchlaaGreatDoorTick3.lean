/- Lemmas on the way to the statement; no condition of its own. -/
import Derived.Test.YtcmgimicdcchlaaGreatDoorTick
set_option linter.unusedVariables false
set_option linter.unusedSimpArgs false
namespace Go.Tick
def bits (n : Int) : Nat := (n % 18446744073709551616).toNat
def inI (n : Int) : Prop := -9223372036854775808 ≤ n ∧ n ≤ 9223372036854775807
theorem bits_lt (n : Int) : bits n < 18446744073709551616 := by unfold bits; omega
def val (l : List UInt8) : Nat := l.foldl (fun n x => n * 256 + x.toNat) 0
theorem be8_bits {n : Int} (hn : inI n) {i : Nat} (h : i < 8) : UInt8.ofNat ((n.fdiv (2 ^ (56 - 8 * i))) % 256).toNat = UInt8.ofNat (bits n / 2 ^ (56 - 8 * i)) := by
  have hp : (2 : Int) ^ (56 - 8 * i) = ((2 ^ (56 - 8 * i) : Nat) : Int) := by simp
  have hb : ((bits n : Nat) : Int) = n % 18446744073709551616 := by unfold bits; omega
  have e2 : (18446744073709551616 : Int) = ((2 ^ (56 - 8 * i) : Nat) : Int) * ((256 * 2 ^ (8 * i) : Nat) : Int) := by
    rw [← Int.natCast_mul, show (256 * 2 ^ (8 * i) : Nat) = 2 ^ (8 + 8 * i) by rw [Nat.pow_add], ← Nat.pow_add, show 56 - 8 * i + (8 + 8 * i) = 64 by omega]
    rfl
  have key : ((bits n / 2 ^ (56 - 8 * i) : Nat) : Int) % 256 = (n.fdiv (2 ^ (56 - 8 * i))) % 256 := by
    rw [hp, Int.fdiv_eq_ediv_of_nonneg _ (Int.natCast_nonneg _), Int.natCast_ediv, hb, e2]
    have hpos : (0 : Int) < ((2 ^ (56 - 8 * i) : Nat) : Int) := Int.natCast_pos.2 (Nat.two_pow_pos _)
    generalize ((2 ^ (56 - 8 * i) : Nat) : Int) = p at hpos
    rw [Int.natCast_mul]
    generalize ((2 ^ (8 * i) : Nat) : Int) = q
    have e3 : n % (p * (((256 : Nat) : Int) * q)) = n + p * (-(256 * q * (n / (p * (256 * q))))) := by
      rw [Int.emod_def]
      show n - p * (256 * q) * _ = _
      rw [Int.mul_neg, ← Int.sub_eq_add_neg, Int.mul_assoc]
      rfl
    rw [e3, Int.add_mul_ediv_left _ _ (by omega)]
    rw [show -(256 * q * (n / (p * (256 * q)))) = 256 * (-(q * (n / (p * (256 * q))))) by rw [Int.mul_neg, Int.mul_assoc]]
    rw [Int.add_mul_emod_self_left]
  apply UInt8.toNat_inj.1
  rw [UInt8.toNat_ofNat', UInt8.toNat_ofNat']
  show ((n.fdiv (2 ^ (56 - 8 * i))) % 256).toNat % 256 = (bits n / 2 ^ (56 - 8 * i)) % 256
  omega
end Go.Tick
