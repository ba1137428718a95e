/- Own text of this seat (Tick3): lemmas on the way to the statement; no condition of its own. -/
import Derived.Test.YtcmgimicdcchlaaGreatDoorTick
/- Numbers of eight bytes with a sign. -/
set_option linter.unusedVariables false
set_option linter.unusedSimpArgs false
namespace Go.Tick
/-- the number of 64 bits, read with a sign -/
def sgn (m : Nat) : Int := if m < 9223372036854775808 then (m : Int) else (m : Int) - 18446744073709551616
/-- the 64 bits of a number -/
def bits (n : Int) : Nat := (n % 18446744073709551616).toNat
def inI (n : Int) : Prop := -9223372036854775808 ≤ n ∧ n ≤ 9223372036854775807
theorem bits_lt (n : Int) : bits n < 18446744073709551616 := by unfold bits; omega
theorem sgn_bits {n : Int} (h : inI n) : sgn (bits n) = n := by unfold sgn bits; obtain ⟨h1, h2⟩ := h; split <;> omega
theorem bits_nat {n : Nat} (h : n < 18446744073709551616) : bits (n : Int) = n := by unfold bits; omega
theorem sgn_in {m : Nat} (h : m < 18446744073709551616) : inI (sgn m) := by unfold sgn inI; split <;> omega
theorem bits_sgn {m : Nat} (h : m < 18446744073709551616) : bits (sgn m) = m := by unfold sgn bits; split <;> omega
theorem sgn_small {m : Nat} (h : m < 9223372036854775808) : sgn m = (m : Int) := by unfold sgn; rw [if_pos h]
/-- the number of bytes -/
def val (l : List UInt8) : Nat := l.foldl (fun n x => n * 256 + x.toNat) 0
theorem val_lt : ∀ (l : List UInt8) (a k : Nat), a < 256 ^ k → l.foldl (fun n x => n * 256 + x.toNat) a < 256 ^ (k + l.length)
  | [], a, k, h => by simpa using h
  | x :: l, a, k, h => by
    have hx := x.toNat_lt
    have e : 256 ^ (k + 1) = 256 ^ k * 256 := Nat.pow_succ ..
    have := val_lt l (a * 256 + x.toNat) (k + 1) (by omega)
    simp only [List.foldl_cons, List.length_cons]
    rw [show k + (l.length + 1) = k + 1 + l.length by omega]
    exact this
theorem val_bound (l : List UInt8) : val l < 256 ^ l.length := by
  have := val_lt l 0 0 (by decide)
  simpa [val] using this
theorem val_take {l : List UInt8} {k : Nat} (h : k < l.length) : val (l.take (k + 1)) = val (l.take k) * 256 + (l.getD k 0).toNat := by
  have e : l.take (k + 1) = l.take k ++ [l.getD k 0] := by
    rw [List.take_add_one, List.getD_eq_getElem?_getD, List.getElem?_eq_getElem h]; rfl
  rw [e, val, List.foldl_append]; rfl
theorem val_small {l : List UInt8} {k : Nat} (hk : k < 8) : val (l.take k) < 72057594037927936 := by
  have h := val_bound (l.take k)
  have h1 : (l.take k).length ≤ 7 := by simp; omega
  have h2 : 256 ^ (l.take k).length ≤ 256 ^ 7 := Nat.pow_le_pow_right (by decide) h1
  have h3 : (256 : Nat) ^ 7 = 72057594037927936 := by decide
  omega
theorem val_full {l : List UInt8} (h : l.length = 8) : val l < 18446744073709551616 := by
  have := val_bound l
  rw [h] at this
  have h3 : (256 : Nat) ^ 8 = 18446744073709551616 := by decide
  omega
theorem be8_val_aux (m : Nat) : ∀ k, k ≤ 8 → val ((be8 m).take k) = m / 2 ^ (64 - 8 * k) % 256 ^ k
  | 0, _ => by simp [val, Nat.mod_one]
  | k + 1, h => by
    have ih := be8_val_aux m k (by omega)
    rw [val_take (by rw [be8_length]; omega), ih, be8_at m (by omega)]
    have e0 : 56 - 8 * k = 64 - 8 * (k + 1) := by omega
    rw [e0]
    have e1 : m / 2 ^ (64 - 8 * k) = m / 2 ^ (64 - 8 * (k + 1)) / 256 := by
      rw [Nat.div_div_eq_div_mul, show (256 : Nat) = 2 ^ 8 by decide, ← Nat.pow_add, show 64 - 8 * (k + 1) + 8 = 64 - 8 * k by omega]
    rw [e1, UInt8.toNat_ofNat']
    generalize m / 2 ^ (64 - 8 * (k + 1)) = x
    have h1 := Nat.mod_mul (x := x) (a := 256) (b := 256 ^ k)
    have h2 : (256 : Nat) ^ (k + 1) = 256 * 256 ^ k := by rw [Nat.pow_succ, Nat.mul_comm]
    rw [h2, h1]
    have e3 : x % 2 ^ 8 = x % 256 := rfl
    omega
theorem val_be8 {m : Nat} (h : m < 18446744073709551616) : val (be8 m) = m := by
  have := be8_val_aux m 8 (Nat.le_refl 8)
  rw [List.take_of_length_le (by rw [be8_length]; omega)] at this
  rw [this, show (64 - 8 * 8 : Nat) = 0 by decide, Nat.pow_zero, Nat.div_one, show (256 : Nat) ^ 8 = 18446744073709551616 by decide, Nat.mod_eq_of_lt h]
theorem val_inj_aux : ∀ (a b : List UInt8), a.length = b.length → ∀ x y : Nat, a.foldl (fun n x => n * 256 + x.toNat) x = b.foldl (fun n x => n * 256 + x.toNat) y → x = y ∧ a = b
  | [], [], _, x, y, h => ⟨h, rfl⟩
  | [], b :: _, h, _, _, _ => by simp at h
  | a :: _, [], h, _, _, _ => by simp at h
  | a :: l, b :: r, hl, x, y, h => by
    obtain ⟨h1, h2⟩ := val_inj_aux l r (by simpa using hl) _ _ h
    simp only at h1
    have ha := a.toNat_lt; have hb := b.toNat_lt
    have h3 : a.toNat = b.toNat := by omega
    exact ⟨by omega, by rw [h2, UInt8.toNat_inj.1 h3]⟩
theorem val_inj {a b : List UInt8} (hl : a.length = b.length) (h : val a = val b) : a = b := (val_inj_aux a b hl 0 0 h).2
theorem be8_val {l : List UInt8} (h : l.length = 8) : be8 (val l) = l := val_inj (by rw [be8_length, h]) (val_be8 (val_full h))
theorem be8_bits {n : Int} (hn : inI n) {i : Nat} (h : i < 8) : UInt8.ofNat ((n.fdiv (2 ^ (56 - 8 * i))) % 256).toNat = UInt8.ofNat (bits n / 2 ^ (56 - 8 * i)) := by
  have hp : (2 : Int) ^ (56 - 8 * i) = ((2 ^ (56 - 8 * i) : Nat) : Int) := by simp
  have hb : ((bits n : Nat) : Int) = n % 18446744073709551616 := by unfold bits; omega
  have e2 : (18446744073709551616 : Int) = ((2 ^ (56 - 8 * i) : Nat) : Int) * ((256 * 2 ^ (8 * i) : Nat) : Int) := by
    rw [← Int.natCast_mul, show (256 * 2 ^ (8 * i) : Nat) = 2 ^ (8 + 8 * i) by rw [Nat.pow_add], ← Nat.pow_add, show 56 - 8 * i + (8 + 8 * i) = 64 by omega]
    rfl
  have key : ((bits n / 2 ^ (56 - 8 * i) : Nat) : Int) % 256 = (n.fdiv (2 ^ (56 - 8 * i))) % 256 := by
    rw [hp, Int.fdiv_eq_ediv_of_nonneg _ (Int.natCast_nonneg _), Int.natCast_ediv, hb, e2]
    have hpos : (0 : Int) < ((2 ^ (56 - 8 * i) : Nat) : Int) := Int.natCast_pos.2 (Nat.two_pow_pos _)
    generalize ((2 ^ (56 - 8 * i) : Nat) : Int) = p at hpos
    rw [Int.natCast_mul]
    generalize ((2 ^ (8 * i) : Nat) : Int) = q
    have e3 : n % (p * (((256 : Nat) : Int) * q)) = n + p * (-(256 * q * (n / (p * (256 * q))))) := by
      rw [Int.emod_def]
      show n - p * (256 * q) * _ = _
      rw [Int.mul_neg, ← Int.sub_eq_add_neg, Int.mul_assoc]
      rfl
    rw [e3, Int.add_mul_ediv_left _ _ (by omega)]
    rw [show -(256 * q * (n / (p * (256 * q)))) = 256 * (-(q * (n / (p * (256 * q))))) by rw [Int.mul_neg, Int.mul_assoc]]
    rw [Int.add_mul_emod_self_left]
  apply UInt8.toNat_inj.1
  rw [UInt8.toNat_ofNat', UInt8.toNat_ofNat']
  show ((n.fdiv (2 ^ (56 - 8 * i))) % 256).toNat % 256 = (bits n / 2 ^ (56 - 8 * i)) % 256
  omega
end Go.Tick
