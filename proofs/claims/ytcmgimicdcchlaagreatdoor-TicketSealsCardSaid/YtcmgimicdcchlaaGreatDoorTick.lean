/- Lemmas on the way to the statement; no condition of its own. -/
import Derived.Test.YtcmgimicdcchlaaGreatDoorQP
set_option linter.unusedVariables false
set_option linter.unusedSimpArgs false
namespace Go.Tick
def be8 (n : Nat) : List UInt8 := (List.range 8).map fun i => UInt8.ofNat (n / 2 ^ (56 - 8 * i))
@[simp] theorem be8_length (n : Nat) : (be8 n).length = 8 := by simp [be8]
theorem be8_at (n : Nat) {i : Nat} (h : i < 8) : (be8 n).getD i 0 = UInt8.ofNat (n / 2 ^ (56 - 8 * i)) := by
  simp [be8, List.getD, h]
theorem be8_step (n : Nat) {k : Nat} (hk : k < 8) : (n / 2 ^ (64 - 8 * k)) * 2 ^ 8 ||| (UInt8.ofNat (n / 2 ^ (56 - 8 * k))).toNat = n / 2 ^ (56 - 8 * k) := by
  have e : n / 2 ^ (64 - 8 * k) = n / 2 ^ (56 - 8 * k) / 2 ^ 8 := by
    rw [Nat.div_div_eq_div_mul, ← Nat.pow_add, show 56 - 8 * k + 8 = 64 - 8 * k by omega]
  rw [e]
  generalize n / 2 ^ (56 - 8 * k) = m
  have h1 : (UInt8.ofNat m).toNat = m % 2 ^ 8 := UInt8.toNat_ofNat'
  rw [h1, Nat.mul_comm, ← Nat.two_pow_add_eq_or_of_lt (Nat.mod_lt _ (Nat.two_pow_pos 8)), Nat.div_add_mod]
def hdr (j : Nat) (l : List UInt8) : List UInt8 := [UInt8.ofNat (j + 1), UInt8.ofNat (l.length / 2 ^ 8), UInt8.ofNat l.length]
def enc : Nat → List (List UInt8) → List UInt8
  | _, [] => []
  | j, l :: r => hdr j l ++ l ++ enc (j + 1) r
theorem enc_length (j : Nat) (ls : List (List UInt8)) : (enc j ls).length = (ls.map fun l => l.length + 3).sum := by
  induction ls generalizing j with
  | nil => rfl
  | cons l r ih => rw [enc, List.length_append, List.length_append, ih]; simp [hdr]; omega
def head (ls : List (List UInt8)) (j : Nat) : List UInt8 := enc 0 (ls.take j)
theorem enc_append (j : Nat) (a b : List (List UInt8)) : enc j (a ++ b) = enc j a ++ enc (j + a.length) b := by
  induction a generalizing j with
  | nil => simp [enc]
  | cons l r ih => simp only [List.cons_append, enc, ih, List.length_cons, List.append_assoc]; rw [show j + 1 + r.length = j + (r.length + 1) by omega]
theorem head_succ {ls : List (List UInt8)} {j : Nat} (h : j < ls.length) : head ls (j + 1) = head ls j ++ hdr j (ls.getD j []) ++ ls.getD j [] := by
  have e : ls.take (j + 1) = ls.take j ++ [ls.getD j []] := by
    rw [List.take_add_one, List.getD_eq_getElem?_getD, List.getElem?_eq_getElem h]; rfl
  have hl : (ls.take j).length = j := by simp; omega
  rw [head, head, e, enc_append, hl, Nat.zero_add]
  simp [enc, List.append_assoc]
theorem head_all (ls : List (List UInt8)) : head ls ls.length = enc 0 ls := by rw [head, List.take_of_length_le (Nat.le_refl _)]
theorem enc_drop {ls : List (List UInt8)} {j : Nat} (h : j < ls.length) : enc j (ls.drop j) = hdr j (ls.getD j []) ++ (ls.getD j [] ++ enc (j + 1) (ls.drop (j + 1))) := by
  have e : ls.drop j = ls.getD j [] :: ls.drop (j + 1) := by
    rw [List.drop_eq_getElem_cons h, List.getD_eq_getElem?_getD, List.getElem?_eq_getElem h]; rfl
  rw [e, enc, List.append_assoc]
theorem head_le (ls : List (List UInt8)) (j : Nat) : (head ls j).length ≤ (enc 0 ls).length := by
  have h := enc_append 0 (ls.take j) (ls.drop j)
  rw [List.take_append_drop] at h
  rw [head, h, List.length_append]; omega
theorem head_len {ls : List (List UInt8)} {j : Nat} (h : j < ls.length) : (head ls (j + 1)).length = (head ls j).length + 3 + (ls.getD j []).length := by
  rw [head_succ h]; simp [hdr]; omega
def okName (l : List UInt8) : Prop := 1 ≤ l.length ∧ l.length ≤ 32
def okTime (n : Int) : Prop := 0 ≤ n ∧ n ≤ 1099511627776
end Go.Tick
namespace Go.Tick
theorem small_shift (n : Nat) {k : Nat} (h : k < 8) (hn : n ≤ 2305843009213693952 := by assumption) : n / 2 ^ (64 - 8 * k) * 2 ^ 8 < 4611686018427387904 := by
  have h1 : n / 2 ^ (64 - 8 * k) ≤ n / 2 ^ (64 - 8 * 7) := Nat.div_le_div_left (Nat.pow_le_pow_right (by decide) (by omega)) (Nat.two_pow_pos _)
  have h2 : n / 2 ^ (64 - 8 * 7) ≤ 2305843009213693952 / 2 ^ (64 - 8 * 7) := Nat.div_le_div_right hn
  have h3 : (2305843009213693952 / 2 ^ (64 - 8 * 7) : Nat) = 9007199254740992 := by decide
  omega
end Go.Tick
namespace Go.Tick
theorem len_or {n : Nat} (h : n < 65536) : (UInt8.ofNat (n / 2 ^ 8)).toNat * 2 ^ 8 ||| (UInt8.ofNat n).toNat = n := by
  have h1 : (UInt8.ofNat (n / 2 ^ 8)).toNat = n / 2 ^ 8 := by rw [UInt8.toNat_ofNat']; exact Nat.mod_eq_of_lt (by omega)
  have h2 : (UInt8.ofNat n).toNat = n % 2 ^ 8 := UInt8.toNat_ofNat'
  rw [h1, h2, Nat.mul_comm, ← Nat.two_pow_add_eq_or_of_lt (Nat.mod_lt _ (Nat.two_pow_pos 8)), Nat.div_add_mod]
theorem enc_end (ls : List (List UInt8)) : enc ls.length (ls.drop ls.length) = [] := by rw [List.drop_length]; rfl
theorem getD_le {ls : List (List UInt8)} {j : Nat} (h : j < ls.length) : (ls.getD j []).length + 3 ≤ (enc 0 ls).length := by
  have h1 := head_len h
  have h2 := head_le ls (j + 1)
  omega
theorem drop_le (ls : List (List UInt8)) (j : Nat) : (enc j (ls.drop j)).length ≤ (enc 0 ls).length := by
  by_cases h : j ≤ ls.length
  · have e := enc_append 0 (ls.take j) (ls.drop j)
    rw [List.take_append_drop, List.length_take, Nat.min_eq_left h, Nat.zero_add] at e
    rw [e, List.length_append]; omega
  · rw [List.drop_eq_nil_of_le (by omega)]; simp [enc]
end Go.Tick
