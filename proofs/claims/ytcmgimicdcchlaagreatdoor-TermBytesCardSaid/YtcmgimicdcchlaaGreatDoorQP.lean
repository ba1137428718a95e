/- Lemmas on the way to the statement; no condition of its own. -/
import Derived.Lib.ItoaNum
set_option linter.unusedVariables false
namespace Go.Aes
def twice (x : UInt8) : UInt8 := UInt8.ofNat (x.toNat * 2 ^ 1) ^^^ UInt8.ofNat (x.toNat / 2 ^ 7) * 27
def timesF : Nat → UInt8 → UInt8 → UInt8 → UInt8
  | 0, p, _, _ => p
  | k + 1, p, a, b => if b = 0 then p else timesF k (p ^^^ a * (b &&& 1)) (twice a) (UInt8.ofNat (b.toNat / 2 ^ 1))
def times (a b : UInt8) : UInt8 := timesF 8 0 a b
theorem timesF_zero (k : Nat) (p a : UInt8) : timesF k p a 0 = p := by cases k <;> simp [timesF]
theorem timesF_step (k : Nat) (p a b : UInt8) (h : ¬ b = 0) : timesF (k + 1) p a b = timesF k (p ^^^ a * (b &&& 1)) (twice a) (UInt8.ofNat (b.toNat / 2 ^ 1)) := by simp [timesF, h]
theorem half (b : UInt8) : (UInt8.ofNat (b.toNat / 2 ^ 1)).toNat = b.toNat / 2 := by
  have := b.toNat_lt; simp; omega
set_option maxRecDepth 10000 in
def boxL : List UInt8 := [
  99, 124, 119, 123, 242, 107, 111, 197, 48, 1, 103, 43, 254, 215, 171, 118,
  202, 130, 201, 125, 250, 89, 71, 240, 173, 212, 162, 175, 156, 164, 114, 192,
  183, 253, 147, 38, 54, 63, 247, 204, 52, 165, 229, 241, 113, 216, 49, 21,
  4, 199, 35, 195, 24, 150, 5, 154, 7, 18, 128, 226, 235, 39, 178, 117,
  9, 131, 44, 26, 27, 110, 90, 160, 82, 59, 214, 179, 41, 227, 47, 132,
  83, 209, 0, 237, 32, 252, 177, 91, 106, 203, 190, 57, 74, 76, 88, 207,
  208, 239, 170, 251, 67, 77, 51, 133, 69, 249, 2, 127, 80, 60, 159, 168,
  81, 163, 64, 143, 146, 157, 56, 245, 188, 182, 218, 33, 16, 255, 243, 210,
  205, 12, 19, 236, 95, 151, 68, 23, 196, 167, 126, 61, 100, 93, 25, 115,
  96, 129, 79, 220, 34, 42, 144, 136, 70, 238, 184, 20, 222, 94, 11, 219,
  224, 50, 58, 10, 73, 6, 36, 92, 194, 211, 172, 98, 145, 149, 228, 121,
  231, 200, 55, 109, 141, 213, 78, 169, 108, 86, 244, 234, 101, 122, 174, 8,
  186, 120, 37, 46, 28, 166, 180, 198, 232, 221, 116, 31, 75, 189, 139, 138,
  112, 62, 181, 102, 72, 3, 246, 14, 97, 53, 87, 185, 134, 193, 29, 158,
  225, 248, 152, 17, 105, 217, 142, 148, 155, 30, 135, 233, 206, 85, 40, 223,
  140, 161, 137, 13, 191, 230, 66, 104, 65, 153, 45, 15, 176, 84, 187, 22]
set_option maxRecDepth 10000 in
theorem boxL_len : boxL.length = 256 := rfl
def sub (x : UInt8) : UInt8 := boxL.getD x.toNat 0
def upTo (i : Nat) (f : Nat → UInt8) (l : List UInt8) : List UInt8 := (List.range l.length).map fun j => if j < i then f j else l.getD j 0
@[simp] theorem upTo_length (i : Nat) (f : Nat → UInt8) (l : List UInt8) : (upTo i f l).length = l.length := by simp [upTo]
theorem upTo_zero (f : Nat → UInt8) (l : List UInt8) : upTo 0 f l = l := by
  apply List.ext_getElem
  · simp
  · intro j h1 h2
    simp [upTo, List.getD, h2]
theorem upTo_set (i : Nat) (f : Nat → UInt8) (l : List UInt8) : (upTo i f l).set i (f i) = upTo (i + 1) f l := by
  apply List.ext_getElem
  · simp
  · intro j h1 h2
    simp only [upTo, List.getElem_set, List.getElem_map, List.getElem_range]
    by_cases hij : i = j
    · subst hij; simp
    · have : (j < i + 1) ↔ (j < i) := by omega
      simp [hij, this]
theorem upTo_all (f : Nat → UInt8) (l : List UInt8) (n : Nat) (h : l.length = n) : upTo n f l = (List.range n).map f := by
  subst h
  apply List.ext_getElem
  · simp
  · intro j h1 h2
    simp only [List.length_map, List.length_range] at h2
    simp [upTo, h2]
theorem upTo_getD (i : Nat) (f : Nat → UInt8) (l : List UInt8) (j : Nat) (h : j < l.length) : (upTo i f l).getD j 0 = if j < i then f j else l.getD j 0 := by
  simp [upTo, List.getD, h]
def xorB (l k : List UInt8) : List UInt8 := (List.range 16).map fun j => l.getD j 0 ^^^ k.getD j 0
def turnB (by_ : Nat) (l : List UInt8) : List UInt8 := (List.range 16).map fun j => l.getD ((j + 4 * by_ * (j % 4)) % 16) 0
def mixAcc (l by_ : List UInt8) (i : Nat) : Nat → UInt8
  | 0 => 0
  | k + 1 => mixAcc l by_ i k ^^^ times (l.getD ((i ^^^ (i &&& 3)) ||| ((i + k) &&& 3)) 0) (by_.getD k 0)
def mixB (l by_ : List UInt8) : List UInt8 := (List.range 16).map fun i => mixAcc l by_ i 4
@[simp] theorem xorB_length (l k : List UInt8) : (xorB l k).length = 16 := by simp [xorB]
@[simp] theorem turnB_length (b : Nat) (l : List UInt8) : (turnB b l).length = 16 := by simp [turnB]
@[simp] theorem mixB_length (l k : List UInt8) : (mixB l k).length = 16 := by simp [mixB]
theorem mix_lt {i k : Nat} (hi : i < 16) (hk : k < 4) : (i ^^^ (i &&& 3)) ||| ((i + k) &&& 3) < 16 := by
  have h1 : i ^^^ (i &&& 3) < 2 ^ 4 := Nat.xor_lt_two_pow hi (Nat.lt_of_le_of_lt Nat.and_le_left hi)
  have h2 : (i + k) &&& 3 < 2 ^ 4 := Nat.lt_of_le_of_lt Nat.and_le_right (by decide)
  exact Nat.or_lt_two_pow h1 h2
theorem mix_lt' {i k : Nat} (hi : i < 16) (hk : k < 4) : i ^^^ (i &&& 3) < 2 ^ 62 ∧ (i + k) &&& 3 < 2 ^ 62 := by
  have h1 : i ^^^ (i &&& 3) < 2 ^ 4 := Nat.xor_lt_two_pow hi (Nat.lt_of_le_of_lt Nat.and_le_left hi)
  have h2 : (i + k) &&& 3 < 2 ^ 4 := Nat.lt_of_le_of_lt Nat.and_le_right (by decide)
  omega
def back (x : UInt8) : UInt8 := UInt8.ofNat (boxL.findIdx fun y => decide (x = y))
def last0 (was : List UInt8) (p : UInt8) : List UInt8 := [sub (was.getD 13 0) ^^^ p, sub (was.getD 14 0), sub (was.getD 15 0), sub (was.getD 12 0)]
def lastAt (was : List UInt8) (p : UInt8) : Nat → List UInt8
  | 0 => last0 was p
  | j + 1 => (lastAt was p j).set (j % 4) ((lastAt was p j).getD (j % 4) 0 ^^^ was.getD j 0)
@[simp] theorem lastAt_length (was : List UInt8) (p : UInt8) (j : Nat) : (lastAt was p j).length = 4 := by
  induction j with
  | zero => rfl
  | succ j ih => simp [lastAt, ih]
def keyAt (was : List UInt8) (p : UInt8) (j : Nat) : UInt8 := (lastAt was p (j + 1)).getD (j % 4) 0
def roundKey (was : List UInt8) (p : UInt8) : List UInt8 := (List.range 16).map (keyAt was p)
def pow : Nat → UInt8
  | 0 => 1
  | i + 1 => twice (pow i)
def rk (key : List UInt8) : Nat → List UInt8
  | 0 => key
  | i + 1 => roundKey (rk key i) (pow i)
theorem rk_length {key : List UInt8} (h : key.length = 16) (i : Nat) : (rk key i).length = 16 := by
  cases i with
  | zero => exact h
  | succ i => simp [rk, roundKey]
def zeros (n : Nat) : List UInt8 := List.replicate n 0
def kf (key : List UInt8) (j : Nat) : UInt8 := (rk key (j / 16)).getD (j % 16) 0
def keysL (key : List UInt8) : List UInt8 := (List.range 176).map (kf key)
theorem keyAt_eq (was : List UInt8) (p : UInt8) (j : Nat) : keyAt was p j = (lastAt was p j).getD (j % 4) 0 ^^^ was.getD j 0 := by
  simp [keyAt, lastAt, List.getD, Nat.mod_lt]
theorem kf_at (key : List UInt8) (i j : Nat) (hj : j < 16) : kf key (16 * i + j) = (rk key i).getD j 0 := by
  have h1 : (16 * i + j) / 16 = i := by omega
  have h2 : (16 * i + j) % 16 = j := by omega
  rw [kf, h1, h2]
theorem rk_succ_at (key : List UInt8) (i j : Nat) (hj : j < 16) : (rk key (i + 1)).getD j 0 = keyAt (rk key i) (pow i) j := by
  simp [rk, roundKey, List.getD, hj]
theorem key0' (n : Nat) (hn : 16 ≤ n) (key : List UInt8) (h : key.length = 16) : (List.replicate n (0 : UInt8)).take (0 * 16) ++ key ++ (List.replicate n 0).drop (0 * 16 + 16) = upTo (16 * (0 + 1)) (kf key) (List.replicate n 0) := by
  apply List.ext_getElem
  · simp [h]; omega
  · intro j h1 h2
    simp only [Nat.zero_mul, List.take_zero, List.nil_append, Nat.zero_add, List.getElem_append]
    simp only [upTo_length, List.length_replicate] at h2
    by_cases hj : j < 16
    · have hj' : j < key.length := by omega
      have e : kf key j = key[j] := by
        have := kf_at key 0 j hj
        simp only [Nat.mul_zero, Nat.zero_add] at this
        rw [this]; simp [rk, List.getD, hj']
      simp [upTo, hj, hj', e]
    · have hj' : ¬ j < key.length := by omega
      simp [upTo, hj, hj', List.getD, h2]
theorem key0 (key : List UInt8) (h : key.length = 16) : (List.replicate 176 (0 : UInt8)).take (0 * 16) ++ key ++ (List.replicate 176 0).drop (0 * 16 + 16) = upTo (16 * (0 + 1)) (kf key) (List.replicate 176 0) := key0' 176 (by decide) key h
theorem upTo_kf (key : List UInt8) (r j : Nat) (hr : r ≤ 10) (hj : j < 16) : (upTo (16 * (r + 1)) (kf key) (List.replicate 176 0)).getD (r * 16 + j) 0 = (rk key r).getD j 0 := by
  rw [upTo_getD _ _ _ _ (by rw [List.length_replicate]; omega), if_pos (by omega), ← kf_at key r j hj, Nat.mul_comm r 16]
theorem upTo_key (key : List UInt8) (r j : Nat) (hj : j < 16) :
    (upTo (16 * (r + 1) + j) (kf key) (List.replicate 176 0)).set ((r + 1) * 16 + j) ((lastAt (rk key r) (pow r) (j + 1)).getD (j % 4) 0) = upTo (16 * (r + 1) + (j + 1)) (kf key) (List.replicate 176 0) := by
  have e : (lastAt (rk key r) (pow r) (j + 1)).getD (j % 4) 0 = kf key (16 * (r + 1) + j) := by
    rw [kf_at key (r + 1) j hj, rk_succ_at key r j hj]; rfl
  rw [e, Nat.mul_comm (r + 1) 16, upTo_set]
  rfl
def subB (l : List UInt8) : List UInt8 := (List.range 16).map fun j => sub (l.getD j 0)
def backB (l : List UInt8) : List UInt8 := (List.range 16).map fun j => back (l.getD j 0)
@[simp] theorem subB_length (l : List UInt8) : (subB l).length = 16 := by simp [subB]
@[simp] theorem backB_length (l : List UInt8) : (backB l).length = 16 := by simp [backB]
def encRound (key : List UInt8) (r : Nat) (l : List UInt8) : List UInt8 :=
  xorB (if r < 10 then mixB (turnB 1 (subB l)) [2, 3, 1, 1] else turnB 1 (subB l)) (rk key r)
def encAt (key l : List UInt8) : Nat → List UInt8
  | 0 => xorB l (rk key 0)
  | r + 1 => encRound key (r + 1) (encAt key l r)
def enc (key l : List UInt8) : List UInt8 := encAt key l 10
theorem encAt_length (key l : List UInt8) (r : Nat) : (encAt key l r).length = 16 := by cases r <;> simp [encAt, encRound]
@[simp] theorem enc_length (key l : List UInt8) : (enc key l).length = 16 := encAt_length key l 10
def decStep (key : List UInt8) (r : Nat) (l : List UInt8) : List UInt8 :=
  backB (turnB 3 (if r < 10 then mixB (xorB l (rk key r)) [14, 11, 13, 9] else xorB l (rk key r)))
def decAt (key l : List UInt8) : Nat → List UInt8
  | 0 => l
  | n + 1 => decStep key (10 - n) (decAt key l n)
def dec (key l : List UInt8) : List UInt8 := xorB (decAt key l 10) (rk key 0)
@[simp] theorem dec_length (key l : List UInt8) : (dec key l).length = 16 := by simp [dec]
theorem keysL_at (key : List UInt8) (r j : Nat) (hr : r ≤ 10) (hj : j < 16) : (keysL key).getD (r * 16 + j) 0 = (rk key r).getD j 0 := by
  have h : r * 16 + j < 176 := by omega
  rw [← kf_at key r j hj, Nat.mul_comm 16 r]
  simp [keysL, List.getD, h]
@[simp] theorem keysL_length (key : List UInt8) : (keysL key).length = 176 := by simp [keysL]
end Go.Aes
set_option linter.unusedVariables false
set_option linter.unusedSimpArgs false
namespace Go.Aes
theorem all8 {P : UInt8 → Prop} (h : ∀ i : Fin 256, P (UInt8.ofNat i.val)) (x : UInt8) : P x := by
  have := h ⟨x.toNat, x.toNat_lt⟩
  simpa using this
theorem byte_split (x : UInt8) : x = (x &&& 1) ^^^ ((x &&& 2) ^^^ ((x &&& 4) ^^^ ((x &&& 8) ^^^ ((x &&& 16) ^^^ ((x &&& 32) ^^^ ((x &&& 64) ^^^ (x &&& 128))))))) :=
  all8 (P := fun x => x = (x &&& 1) ^^^ ((x &&& 2) ^^^ ((x &&& 4) ^^^ ((x &&& 8) ^^^ ((x &&& 16) ^^^ ((x &&& 32) ^^^ ((x &&& 64) ^^^ (x &&& 128)))))))) (by decide +kernel) x
theorem bit_or (x : UInt8) : (x &&& 1 = 0 ∨ x &&& 1 = 1) ∧ (x &&& 2 = 0 ∨ x &&& 2 = 2) ∧ (x &&& 4 = 0 ∨ x &&& 4 = 4) ∧ (x &&& 8 = 0 ∨ x &&& 8 = 8) ∧ (x &&& 16 = 0 ∨ x &&& 16 = 16) ∧ (x &&& 32 = 0 ∨ x &&& 32 = 32) ∧ (x &&& 64 = 0 ∨ x &&& 64 = 64) ∧ (x &&& 128 = 0 ∨ x &&& 128 = 128) :=
  all8 (P := fun x => (x &&& 1 = 0 ∨ x &&& 1 = 1) ∧ (x &&& 2 = 0 ∨ x &&& 2 = 2) ∧ (x &&& 4 = 0 ∨ x &&& 4 = 4) ∧ (x &&& 8 = 0 ∨ x &&& 8 = 8) ∧ (x &&& 16 = 0 ∨ x &&& 16 = 16) ∧ (x &&& 32 = 0 ∨ x &&& 32 = 32) ∧ (x &&& 64 = 0 ∨ x &&& 64 = 64) ∧ (x &&& 128 = 0 ∨ x &&& 128 = 128)) (by decide +kernel) x
theorem byte_ind {P : UInt8 → Prop} (h0 : P 0) (h1 : P 1) (h2 : P 2) (h4 : P 4) (h8 : P 8) (h16 : P 16) (h32 : P 32) (h64 : P 64) (h128 : P 128) (hx : ∀ a b, P a → P b → P (a ^^^ b)) (x : UInt8) : P x := by
  obtain ⟨a1, a2, a3, a4, a5, a6, a7, a8⟩ := bit_or x
  rw [byte_split x]
  refine hx _ _ ?_ (hx _ _ ?_ (hx _ _ ?_ (hx _ _ ?_ (hx _ _ ?_ (hx _ _ ?_ (hx _ _ ?_ ?_))))))
  · rcases a1 with h | h <;> rw [h] <;> assumption
  · rcases a2 with h | h <;> rw [h] <;> assumption
  · rcases a3 with h | h <;> rw [h] <;> assumption
  · rcases a4 with h | h <;> rw [h] <;> assumption
  · rcases a5 with h | h <;> rw [h] <;> assumption
  · rcases a6 with h | h <;> rw [h] <;> assumption
  · rcases a7 with h | h <;> rw [h] <;> assumption
  · rcases a8 with h | h <;> rw [h] <;> assumption
theorem xor_and8 (a b c : UInt8) : (a ^^^ b) &&& c = (a &&& c) ^^^ (b &&& c) := by
  apply UInt8.eq_of_toBitVec_eq
  simp only [UInt8.toBitVec_and, UInt8.toBitVec_xor]
  apply BitVec.eq_of_getElem_eq
  intro i hi
  simp only [BitVec.getElem_and, BitVec.getElem_xor]
  cases a.toBitVec[i] <;> cases b.toBitVec[i] <;> cases c.toBitVec[i] <;> rfl
theorem xor_swap (a b c d : UInt8) : (a ^^^ b) ^^^ (c ^^^ d) = (a ^^^ c) ^^^ (b ^^^ d) := by
  rw [UInt8.xor_assoc, UInt8.xor_assoc, ← UInt8.xor_assoc b c d, UInt8.xor_comm b c, UInt8.xor_assoc]
def hf (b : UInt8) : UInt8 := UInt8.ofNat (b.toNat / 2 ^ 1)
theorem hf_shift (b : UInt8) : hf b = b >>> 1 := all8 (P := fun b => hf b = b >>> 1) (by decide +kernel) b
theorem hf_xor (a b : UInt8) : hf (a ^^^ b) = hf a ^^^ hf b := by
  rw [hf_shift, hf_shift, hf_shift, UInt8.shiftRight_xor]
theorem twice_alt (x : UInt8) : twice x = (x <<< 1) ^^^ (if x &&& 128 = 0 then 0 else 27) := all8 (P := fun x => twice x = (x <<< 1) ^^^ (if x &&& 128 = 0 then 0 else 27)) (by decide +kernel) x
theorem sw27 (A B : UInt8) : A ^^^ B ^^^ 27 = A ^^^ 27 ^^^ B := by rw [UInt8.xor_assoc, UInt8.xor_assoc, UInt8.xor_comm 27 B]
theorem twice_xor (a b : UInt8) : twice (a ^^^ b) = twice a ^^^ twice b := by
  rw [twice_alt, twice_alt, twice_alt, UInt8.shiftLeft_xor, xor_and8]
  obtain ⟨_, _, _, _, _, _, _, ha⟩ := bit_or a
  obtain ⟨_, _, _, _, _, _, _, hb⟩ := bit_or b
  rcases ha with ha | ha <;> rcases hb with hb | hb <;> simp [ha, hb, xor_swap] <;>
    first
      | exact sw27 _ _
      | (rw [UInt8.xor_assoc]; done)
      | skip
theorem mulbit_xor (a c b : UInt8) : (a ^^^ c) * (b &&& 1) = a * (b &&& 1) ^^^ c * (b &&& 1) := by
  obtain ⟨h, _⟩ := bit_or b
  rcases h with h | h <;> simp [h]
theorem mulbit_xor' (a b d : UInt8) : a * ((b ^^^ d) &&& 1) = a * (b &&& 1) ^^^ a * (d &&& 1) := by
  rw [xor_and8]
  obtain ⟨h, _⟩ := bit_or b
  obtain ⟨k, _⟩ := bit_or d
  rcases h with h | h <;> rcases k with k | k <;> simp [h, k]
theorem timesF_p (k : Nat) : ∀ (p a b : UInt8), timesF k p a b = p ^^^ timesF k 0 a b := by
  induction k with
  | zero => intro p a b; simp [timesF]
  | succ k ih =>
    intro p a b
    by_cases h : b = 0
    · subst h; simp [timesF]
    · rw [timesF_step _ _ _ _ h, timesF_step _ _ _ _ h, ih, ih (0 ^^^ _)]
      simp [UInt8.xor_assoc]
theorem timesF_succ (k : Nat) (a b : UInt8) : timesF (k + 1) 0 a b = a * (b &&& 1) ^^^ timesF k 0 (twice a) (hf b) := by
  by_cases h : b = 0
  · subst h
    have : hf 0 = 0 := by decide
    rw [timesF_zero, this, timesF_zero]; simp
  · rw [timesF_step _ _ _ _ h, timesF_p]; simp [hf]
theorem timesF_xorl (k : Nat) : ∀ (a c b : UInt8), timesF k 0 (a ^^^ c) b = timesF k 0 a b ^^^ timesF k 0 c b := by
  induction k with
  | zero => intro a c b; simp [timesF]
  | succ k ih => intro a c b; rw [timesF_succ, timesF_succ, timesF_succ, twice_xor, ih, mulbit_xor, xor_swap]
theorem timesF_xorr (k : Nat) : ∀ (a b d : UInt8), timesF k 0 a (b ^^^ d) = timesF k 0 a b ^^^ timesF k 0 a d := by
  induction k with
  | zero => intro a b d; simp [timesF]
  | succ k ih => intro a b d; rw [timesF_succ, timesF_succ, timesF_succ, hf_xor, ih, mulbit_xor', xor_swap]
theorem times_xorl (a c b : UInt8) : times (a ^^^ c) b = times a b ^^^ times c b := timesF_xorl 8 a c b
theorem times_xorr (a b d : UInt8) : times a (b ^^^ d) = times a b ^^^ times a d := timesF_xorr 8 a b d
theorem times_zero_r (a : UInt8) : times a 0 = 0 := by
  have := times_xorr a 0 0
  simpa using this
theorem times_two (a : UInt8) : times a 2 = twice a := by
  refine byte_ind (P := fun a => times a 2 = twice a) ?_ ?_ ?_ ?_ ?_ ?_ ?_ ?_ ?_ (fun x y hx hy => by rw [times_xorl, twice_xor, hx, hy]) a
  all_goals decide +kernel
def inv (x : UInt8) : UInt8 :=
  let x2 := times x x
  let x4 := times x2 x2
  let x8 := times x4 x4
  let x16 := times x8 x8
  let x32 := times x16 x16
  let x64 := times x32 x32
  let x128 := times x64 x64
  times x128 (times x64 (times x32 (times x16 (times x8 (times x4 x2)))))
theorem times_inv (x : UInt8) (h : ¬ x = 0) : times x (inv x) = 1 :=
  all8 (P := fun x => ¬ x = 0 → times x (inv x) = 1) (by decide +kernel) x h
def wk : List UInt8 := (List.range 16).map fun j => UInt8.ofNat j
def wb : List UInt8 := (List.range 16).map fun j => UInt8.ofNat (17 * j)
end Go.Aes
set_option linter.unusedVariables false
namespace Go.Aes
theorem ext16 {a b : List UInt8} (ha : a.length = 16) (hb : b.length = 16) (h : ∀ j, j < 16 → a.getD j 0 = b.getD j 0) : a = b := by
  apply List.ext_getElem (by omega)
  intro j h1 h2
  have := h j (by omega)
  simpa [List.getD, h1, h2] using this
theorem map_at (f : Nat → UInt8) {j : Nat} (h : j < 16) : ((List.range 16).map f).getD j 0 = f j := by simp [List.getD, h]
end Go.Aes
set_option linter.unusedVariables false
set_option linter.unusedSimpArgs false
namespace Go.Aes
theorem twice_big (x : UInt8) : 256 ≤ 2 * x.toNat → (2 * x.toNat) ^^^ 283 = (twice x).toNat := all8 (P := fun x => 256 ≤ 2 * x.toNat → (2 * x.toNat) ^^^ 283 = (twice x).toNat) (by decide +kernel) x
theorem twice_small (x : UInt8) : ¬ 256 ≤ 2 * x.toNat → 2 * x.toNat = (twice x).toNat := all8 (P := fun x => ¬ 256 ≤ 2 * x.toNat → 2 * x.toNat = (twice x).toNat) (by decide +kernel) x
theorem odd_and (b : UInt8) : b.toNat % 2 = 1 → b &&& 1 = 1 := all8 (P := fun b => b.toNat % 2 = 1 → b &&& 1 = 1) (by decide +kernel) b
theorem even_and (b : UInt8) : ¬ b.toNat % 2 = 1 → b &&& 1 = 0 := all8 (P := fun b => ¬ b.toNat % 2 = 1 → b &&& 1 = 0) (by decide +kernel) b
theorem odd_step (p a b : UInt8) (h : b.toNat % 2 = 1) : p ^^^ a * (b &&& 1) = p ^^^ a := by rw [odd_and b h, UInt8.mul_one]
theorem even_step (p a b : UInt8) (h : ¬ b.toNat % 2 = 1) : p ^^^ a * (b &&& 1) = p := by rw [even_and b h, UInt8.mul_zero, UInt8.xor_zero]
theorem inv_zero : inv 0 = 0 := by decide +kernel
def rot (t : UInt8) : UInt8 := t * 2 + t / 128
def affT (v : UInt8) : Nat → UInt8
  | 0 => v
  | k + 1 => rot (affT v k)
def affS (v : UInt8) : Nat → UInt8
  | 0 => v
  | k + 1 => affS v k ^^^ affT v (k + 1)
def Found (x : UInt8) (i : Nat) (v : UInt8) : Prop := v = inv x ∨ (v = 0 ∧ ∀ j, 1 ≤ j → j < i → ¬ times x (UInt8.ofNat j) = 1)
theorem Found.all {x : UInt8} {v : UInt8} (hf : Found x 256 v) : v = inv x := by
  rcases hf with hf | ⟨h1, h2⟩
  · exact hf
  · by_cases hx : x = 0
    · rw [hx, inv_zero, h1]
    · have hi := times_inv x hx
      have hne : inv x ≠ 0 := fun e => by
        rw [e, times_zero_r] at hi; exact absurd hi (by decide)
      have h3 := h2 (inv x).toNat (by
        have : (inv x).toNat ≠ 0 := fun e => hne (UInt8.toNat_inj.1 (by simpa using e))
        omega) (inv x).toNat_lt
      rw [UInt8.ofNat_toNat] at h3
      exact absurd hi h3
set_option maxRecDepth 10000 in
def powL : List UInt8 := [
  1, 3, 5, 15, 17, 51, 85, 255, 26, 46, 114, 150, 161, 248, 19, 53,
  95, 225, 56, 72, 216, 115, 149, 164, 247, 2, 6, 10, 30, 34, 102, 170,
  229, 52, 92, 228, 55, 89, 235, 38, 106, 190, 217, 112, 144, 171, 230, 49,
  83, 245, 4, 12, 20, 60, 68, 204, 79, 209, 104, 184, 211, 110, 178, 205,
  76, 212, 103, 169, 224, 59, 77, 215, 98, 166, 241, 8, 24, 40, 120, 136,
  131, 158, 185, 208, 107, 189, 220, 127, 129, 152, 179, 206, 73, 219, 118, 154,
  181, 196, 87, 249, 16, 48, 80, 240, 11, 29, 39, 105, 187, 214, 97, 163,
  254, 25, 43, 125, 135, 146, 173, 236, 47, 113, 147, 174, 233, 32, 96, 160,
  251, 22, 58, 78, 210, 109, 183, 194, 93, 231, 50, 86, 250, 21, 63, 65,
  195, 94, 226, 61, 71, 201, 64, 192, 91, 237, 44, 116, 156, 191, 218, 117,
  159, 186, 213, 100, 172, 239, 42, 126, 130, 157, 188, 223, 122, 142, 137, 128,
  155, 182, 193, 88, 232, 35, 101, 175, 234, 37, 111, 177, 200, 67, 197, 84,
  252, 31, 33, 99, 165, 244, 7, 9, 27, 45, 119, 153, 176, 203, 70, 202,
  69, 207, 74, 222, 121, 139, 134, 145, 168, 227, 62, 66, 198, 81, 243, 14,
  18, 54, 90, 238, 41, 123, 141, 140, 143, 138, 133, 148, 167, 242, 13, 23,
  57, 75, 221, 124, 132, 151, 162, 253, 28, 36, 108, 180, 199, 82, 246]
def pw (i : Nat) : UInt8 := if i < 255 then powL.getD i 0 else 1
theorem pw_step {i : Nat} (h : i < 255) : times (pw i) 3 = pw (i + 1) := by
  have : ∀ i : Fin 255, times (pw i.val) 3 = pw (i.val + 1) := by decide +kernel
  exact this ⟨i, h⟩
def pwL (n : Nat) : List UInt8 := (List.range n).map pw
theorem pwL_succ (n : Nat) : pwL n ++ [pw n] = pwL (n + 1) := by simp [pwL, List.range_succ]
theorem pwL_len (n : Nat) : (pwL n).length = n := by simp [pwL]
theorem pwL_at {n j : Nat} (h : j < n) : (pwL n).getD j 0 = pw j := by simp [pwL, List.getD, h]
def tabAt : Nat → List UInt8
  | 0 => (zeros 256).set 0 99
  | e + 1 => (tabAt e).set (pw e).toNat (affS (pw ((255 - e) % 255)) 4 ^^^ 99)
theorem tabAt_len (e : Nat) : (tabAt e).length = 256 := by
  induction e with
  | zero => rw [tabAt, List.length_set, zeros, List.length_replicate]
  | succ e ih => simp [tabAt, ih]
theorem tabAt_all : tabAt 255 = boxL := by decide +kernel
def word (key : List UInt8) (i : Nat) : List UInt8 :=
  if i % 4 = 0 then [sub (kf key (4 * i - 3)) ^^^ pow (i / 4 - 1), sub (kf key (4 * i - 2)), sub (kf key (4 * i - 1)), sub (kf key (4 * i - 4))]
  else [kf key (4 * i - 4), kf key (4 * i - 3), kf key (4 * i - 2), kf key (4 * i - 1)]
theorem getD_set (l : List UInt8) (i j : Nat) (v : UInt8) (hj : j < l.length) : (l.set i v).getD j 0 = if i = j then v else l.getD j 0 := by
  simp [List.getD, List.getElem?_set, hj]
  split <;> simp_all
theorem lastAt_get (was : List UInt8) (p : UInt8) : ∀ j c, c < 4 → (lastAt was p j).getD c 0 = if j ≤ c then (last0 was p).getD c 0 else keyAt was p (4 * ((j - 1 - c) / 4) + c) := by
  intro j
  induction j with
  | zero => intro c hc; simp [lastAt]
  | succ j ih =>
    intro c hc
    rw [lastAt, getD_set _ _ _ _ (by rw [lastAt_length]; exact hc)]
    by_cases h : j % 4 = c
    · rw [if_pos h, if_neg (by omega)]
      have e : 4 * ((j + 1 - 1 - c) / 4) + c = j := by omega
      rw [e, keyAt_eq]
    · rw [if_neg h, ih c hc]
      by_cases h2 : j ≤ c
      · rw [if_pos h2, if_pos (by omega)]
      · rw [if_neg h2, if_neg (by omega)]
        congr 2
        omega
theorem kf_step (key : List UInt8) {i j : Nat} (h4 : 4 ≤ i) (hj : j < 4) : kf key (4 * i - 16 + j) ^^^ (word key i).getD j 0 = kf key (4 * i + j) := by
  obtain ⟨r, m, hm, rfl⟩ : ∃ r m, m < 4 ∧ i = 4 * (r + 1) + m := ⟨i / 4 - 1, i % 4, Nat.mod_lt _ (by decide), by omega⟩
  have e1 : 4 * (4 * (r + 1) + m) - 16 + j = 16 * r + (4 * m + j) := by omega
  have e2 : 4 * (4 * (r + 1) + m) + j = 16 * (r + 1) + (4 * m + j) := by omega
  rw [e1, e2, kf_at key r _ (by omega), kf_at key (r + 1) _ (by omega), rk_succ_at key r _ (by omega), keyAt_eq, UInt8.xor_comm]
  have e3 : (4 * m + j) % 4 = j := by omega
  rw [e3, lastAt_get _ _ _ _ hj]
  congr 1
  by_cases hm0 : m = 0
  · subst hm0
    rw [if_pos (by omega)]
    have f : ∀ c, 1 ≤ c → c ≤ 4 → kf key (4 * (4 * (r + 1) + 0) - c) = (rk key r).getD (16 - c) 0 := fun c h1 h2 => by
      rw [← kf_at key r (16 - c) (by omega)]; congr 1; omega
    rw [word, if_pos (by omega), f 3 (by omega) (by omega), f 2 (by omega) (by omega), f 1 (by omega) (by omega), f 4 (by omega) (by omega)]
    have e4 : (4 * (r + 1) + 0) / 4 - 1 = r := by omega
    rw [e4]
    rfl
  · rw [if_neg (by omega), word, if_neg (by omega)]
    have e5 : 4 * ((4 * m + j - 1 - j) / 4) + j = 4 * (m - 1) + j := by omega
    rw [e5, ← rk_succ_at key r _ (by omega), ← kf_at key (r + 1) _ (by omega)]
    have e6 : 16 * (r + 1) + (4 * (m - 1) + j) = 4 * (4 * (r + 1) + m) - (4 - j) := by omega
    rw [e6]
    rcases (by omega : j = 0 ∨ j = 1 ∨ j = 2 ∨ j = 3) with rfl | rfl | rfl | rfl <;> rfl
def kl (key : List UInt8) (n : Nat) : List UInt8 := (List.range n).map (kf key)
theorem kl_len (key : List UInt8) (n : Nat) : (kl key n).length = n := by simp [kl]
theorem kl_at (key : List UInt8) {n j : Nat} (h : j < n) : (kl key n).getD j 0 = kf key j := by simp [kl, List.getD, h]
theorem kl_succ (key : List UInt8) (n : Nat) : kl key n ++ [kf key n] = kl key (n + 1) := by simp [kl, List.range_succ]
theorem kl_16 {key : List UInt8} (h : key.length = 16) : kl key 16 = key := by
  refine ext16 (kl_len key 16) h fun j hj => ?_
  rw [kl_at key hj]
  have := kf_at key 0 j hj
  simpa [rk] using this
theorem mix_ix {i k : Nat} (hi : i < 16) (hk : k < 4) : (i ^^^ (i &&& 3)) ||| ((i + k) &&& 3) = i / 4 * 4 + (i + k) % 4 := by
  have : ∀ i : Fin 16, ∀ k : Fin 4, (i.val ^^^ (i.val &&& 3)) ||| ((i.val + k.val) &&& 3) = i.val / 4 * 4 + (i.val + k.val) % 4 := by decide
  exact this ⟨i, hi⟩ ⟨k, hk⟩
theorem mixAcc_step (l m : List UInt8) {i k : Nat} (hi : i < 16) (hk : k < 4) : mixAcc l m i k ^^^ times (l.getD (i / 4 * 4 + (i + k) % 4) 0) (m.getD k 0) = mixAcc l m i (k + 1) := by
  rw [mixAcc, mix_ix hi hk]
theorem turn_sub (l : List UInt8) : turnB 1 (subB l) = (List.range 16).map fun j => sub (l.getD ((j + 4 * (j % 4)) % 16) 0) := by
  refine ext16 (by simp) (by simp) fun j hj => ?_
  rw [turnB, map_at _ hj, map_at _ hj, subB, map_at _ (Nat.mod_lt _ (by decide))]
theorem set_get (l : List UInt8) (i : Nat) (v : UInt8) (h : i < l.length) : (l.set i v).getD i 0 = v := by rw [getD_set _ _ _ _ h, if_pos rfl]
theorem upTo_set0 (i n : Nat) (f : Nat → UInt8) : (upTo i f (List.replicate n 0)).set i 0 = upTo i f (List.replicate n 0) := by
  apply List.ext_getElem (by simp)
  intro j h1 h2
  rw [List.getElem_set]
  by_cases h : i = j
  · subst h
    simp only [upTo_length, List.length_replicate] at h2
    simp [upTo, List.getD, List.getElem?_replicate, h2]
  · rw [if_neg h]
theorem pow_step (n : Nat) : times (pow n) 2 = pow (n + 1) := times_two _
end Go.Aes
set_option linter.unusedVariables false
set_option linter.unusedSimpArgs false
namespace Go.Sha
def consts : List UInt32 := [
  1116352408, 1899447441, 3049323471, 3921009573, 961987163, 1508970993, 2453635748, 2870763221,
  3624381080, 310598401, 607225278, 1426881987, 1925078388, 2162078206, 2614888103, 3248222580,
  3835390401, 4022224774, 264347078, 604807628, 770255983, 1249150122, 1555081692, 1996064986,
  2554220882, 2821834349, 2952996808, 3210313671, 3336571891, 3584528711, 113926993, 338241895,
  666307205, 773529912, 1294757372, 1396182291, 1695183700, 1986661051, 2177026350, 2456956037,
  2730485921, 2820302411, 3259730800, 3345764771, 3516065817, 3600352804, 4094571909, 275423344,
  430227734, 506948616, 659060556, 883997877, 958139571, 1322822218, 1537002063, 1747873779,
  1955562222, 2024104815, 2227730452, 2361852424, 2428436474, 2756734187, 3204031479, 3329325298]
theorem consts_len : consts.length = 64 := rfl
def shl (x : UInt32) (k : Nat) : UInt32 := UInt32.ofNat (x.toNat * 2 ^ k)
def shr (x : UInt32) (k : Nat) : UInt32 := UInt32.ofNat (x.toNat / 2 ^ k)
def ror (x : UInt32) (k : Nat) : UInt32 := shl x (32 - k) ||| shr x k
def up (x : UInt8) : UInt32 := UInt32.ofNat x.toNat
def word0 (blk : List UInt8) (t : Nat) : UInt32 :=
  shl (up (blk.getD (4 * t) 0)) 24 ||| shl (up (blk.getD (4 * t + 1) 0)) 16 ||| shl (up (blk.getD (4 * t + 2) 0)) 8 ||| up (blk.getD (4 * t + 3) 0)
def next (l : List UInt32) (t : Nat) : UInt32 :=
  l.getD (t - 16) 0 + (ror (l.getD (t - 15) 0) 7 ^^^ ror (l.getD (t - 15) 0) 18 ^^^ shr (l.getD (t - 15) 0) 3) + l.getD (t - 7) 0 + (ror (l.getD (t - 2) 0) 17 ^^^ ror (l.getD (t - 2) 0) 19 ^^^ shr (l.getD (t - 2) 0) 10)
def wl (blk : List UInt8) : Nat → List UInt32
  | 0 => List.replicate 64 0
  | n + 1 => (wl blk n).set n (if n < 16 then word0 blk n else next (wl blk n) n)
@[simp] theorem wl_length (blk : List UInt8) (n : Nat) : (wl blk n).length = 64 := by
  induction n with
  | zero => rw [wl, List.length_replicate]
  | succ n ih => rw [wl, List.length_set, ih]
structure S where
  a : UInt32
  b : UInt32
  c : UInt32
  d : UInt32
  e : UInt32
  f : UInt32
  g : UInt32
  h : UInt32
def S.list (s : S) : List UInt32 := [s.a, s.b, s.c, s.d, s.e, s.f, s.g, s.h]
def S.of (l : List UInt32) : S := ⟨l.getD 0 0, l.getD 1 0, l.getD 2 0, l.getD 3 0, l.getD 4 0, l.getD 5 0, l.getD 6 0, l.getD 7 0⟩
def t1 (s : S) (k w : UInt32) : UInt32 := s.h + (ror s.e 6 ^^^ ror s.e 11 ^^^ ror s.e 25) + (s.e &&& s.f ^^^ ~~~ s.e &&& s.g) + k + w
def t2 (s : S) : UInt32 := (ror s.a 2 ^^^ ror s.a 13 ^^^ ror s.a 22) + (s.a &&& s.b ^^^ s.a &&& s.c ^^^ s.b &&& s.c)
def step (s : S) (k w : UInt32) : S := ⟨t1 s k w + t2 s, s.a, s.b, s.c, s.d + t1 s k w, s.e, s.f, s.g⟩
def rounds (st : List UInt32) (ws : List UInt32) : Nat → S
  | 0 => S.of st
  | t + 1 => step (rounds st ws t) (consts.getD t 0) (ws.getD t 0)
def sums (st r : List UInt32) : Nat → List UInt32
  | 0 => st
  | i + 1 => (sums st r i).set i ((sums st r i).getD i 0 + r.getD i 0)
@[simp] theorem sums_length (st r : List UInt32) (n : Nat) : (sums st r n).length = st.length := by
  induction n with
  | zero => rfl
  | succ n ih => rw [sums, List.length_set, ih]
def block (st : List UInt32) (blk : List UInt8) : List UInt32 := sums st (rounds st (wl blk 64) 64).list 8
def first : List UInt32 := [1779033703, 3144134277, 1013904242, 2773480762, 1359893119, 2600822924, 528734635, 1541459225]
theorem block_length (st : List UInt32) (blk : List UInt8) : (block st blk).length = st.length := sums_length ..
theorem low5 {k : Nat} (h1 : 0 < k) (h2 : k < 32) : (18446744073709551616 - k) &&& 31 = 32 - k := by
  have : ∀ k : Fin 32, 0 < k.val → (18446744073709551616 - k.val) &&& 31 = 32 - k.val := by decide
  exact this ⟨k, h2⟩ h1
def padN (n : Nat) : Nat := (n + 8 + 64) / 64 * 64
def be (x : Nat) : Nat → List UInt8
  | 0 => []
  | k + 1 => be (x / 256) k ++ [UInt8.ofNat x]
@[simp] theorem be_length (k : Nat) : ∀ x, (be x k).length = k := by
  induction k with
  | zero => intro x; rfl
  | succ k ih => intro x; simp [be, ih]
def pad (l : List UInt8) : List UInt8 := l ++ [128] ++ List.replicate (padN l.length - l.length - 9) 0 ++ be (l.length * 8) 8
theorem padN_ge (n : Nat) : n + 9 ≤ padN n ∧ padN n ≤ n + 72 ∧ padN n % 64 = 0 := by unfold padN; omega
theorem pad_length (l : List UInt8) : (pad l).length = padN l.length := by
  have := padN_ge l.length
  simp [pad]; omega
def digest (st : List UInt32) (l : List UInt8) : Nat → List UInt32
  | 0 => st
  | k + 1 => block (digest st l k) ((l.drop (64 * k)).take 64)
def outByte (s : List UInt32) (j : Nat) : UInt8 := UInt8.ofNat ((s.getD (j / 4) 0).toNat / 2 ^ (24 - 8 * (j % 4)))
def out (s : List UInt32) : List UInt8 := (List.range 32).map (outByte s)
@[simp] theorem out_length (s : List UInt32) : (out s).length = 32 := by simp [out]
def sum (l : List UInt8) : List UInt8 := out (digest first (pad l) (padN l.length / 64))
@[simp] theorem sum_length (l : List UInt8) : (sum l).length = 32 := by simp [sum]
theorem digest_length {st : List UInt32} (h : st.length = 8) (l : List UInt8) (k : Nat) : (digest st l k).length = 8 := by
  induction k with
  | zero => exact h
  | succ k ih => rw [digest, block_length, ih]
theorem be_cons (k : Nat) : ∀ x, be x (k + 1) = UInt8.ofNat (x / 256 ^ k) :: be x k := by
  induction k with
  | zero => intro x; simp [be]
  | succ k ih =>
    intro x
    rw [be, ih (x / 256)]
    rw [show be x (k + 1) = be (x / 256) k ++ [UInt8.ofNat x] from rfl, Nat.div_div_eq_div_mul, ← Nat.pow_succ']
    rfl
theorem be_small {x k : Nat} (h : x / 256 ^ k = 0) : ∀ m, be x (k + m) = List.replicate m 0 ++ be x k := by
  intro m
  induction m with
  | zero => simp
  | succ m ih =>
    rw [show k + (m + 1) = k + m + 1 from rfl, be_cons, ih]
    have : x / 256 ^ (k + m) = 0 := by rw [Nat.pow_add, ← Nat.div_div_eq_div_mul, h, Nat.zero_div]
    rw [this]
    rfl
def padK (l : List UInt8) (k : Nat) : List UInt8 := l ++ [128] ++ List.replicate (padN l.length - l.length - 9) 0 ++ List.replicate (8 - k) 0 ++ be (l.length * 8) k
theorem padK_length (l : List UInt8) {k : Nat} (hk : k ≤ 8) : (padK l k).length = padN l.length := by
  have := padN_ge l.length
  simp [padK]; omega
theorem set_mid (p q : List UInt8) (a v : UInt8) (n : Nat) (h : n = p.length) : (p ++ [a] ++ q).set n v = p ++ [v] ++ q := by
  subst h; simp
theorem padK_step (l : List UInt8) {k : Nat} (hk : k < 8) : (padK l k).set (padN l.length - 1 - k) (UInt8.ofNat (l.length * 8 / 256 ^ k)) = padK l (k + 1) := by
  have h1 := padN_ge l.length
  have e : List.replicate (8 - k) (0 : UInt8) = List.replicate (8 - (k + 1)) 0 ++ [0] := by
    rw [show 8 - k = 8 - (k + 1) + 1 by omega, List.replicate_succ']
  rw [padK, padK, e, be_cons, ← List.append_assoc]
  rw [set_mid _ _ _ _ _ (by simp; omega)]
  simp
theorem padK_all (l : List UInt8) {k : Nat} (hk : k ≤ 8) (h : l.length * 8 / 256 ^ k = 0) : padK l k = pad l := by
  rw [padK, pad]
  have := be_small h (8 - k)
  rw [show k + (8 - k) = 8 by omega] at this
  rw [this]
  simp only [List.append_assoc]
theorem pad_copy (l : List UInt8) : (List.replicate (padN l.length) (0 : UInt8)).take 0 ++ l.take (padN l.length) ++ (List.replicate (padN l.length) 0).drop (0 + min l.length (padN l.length)) = l ++ List.replicate (padN l.length - l.length) 0 := by
  have h1 := padN_ge l.length
  rw [List.take_of_length_le (l := l) (by omega), Nat.min_eq_left (by omega), List.drop_replicate]
  simp
theorem pad_128 (l : List UInt8) : (l ++ List.replicate (padN l.length - l.length) (0 : UInt8)).set l.length 128 = padK l 0 := by
  have h1 := padN_ge l.length
  rw [show padN l.length - l.length = padN l.length - l.length - 9 + 8 + 1 by omega, List.replicate_succ]
  have := set_mid l (List.replicate (padN l.length - l.length - 9 + 8) 0) 0 128 l.length rfl
  simp only [List.append_assoc, List.singleton_append] at this
  rw [this, padK, ← List.replicate_append_replicate]
  simp [be]
theorem lt8 {x k : Nat} (h : 0 < x / 256 ^ k) (hx : x < 18446744073709551616) (hk : k ≤ 8) : k < 8 := by
  by_cases e : k = 8
  · subst e
    have : x / 256 ^ 8 = 0 := Nat.div_eq_of_lt hx
    omega
  · omega
theorem shift8 (x k : Nat) : x / 256 ^ k / 2 ^ 8 = x / 256 ^ (k + 1) := by
  have : (2 : Nat) ^ 8 = 256 := rfl
  rw [this, Nat.div_div_eq_div_mul, Nat.pow_succ]
theorem take_getD {l : List UInt8} {n j : Nat} (h : j < n) : (l.take n).getD j 0 = l.getD j 0 := by
  simp only [List.getD, List.getElem?_take]
  rw [if_pos h]
theorem out0 (s : List UInt32) (i : Nat) : UInt8.ofNat ((s.getD i 0).toNat / 2 ^ 24) = outByte s (4 * i) := by
  unfold outByte; rw [show 4 * i / 4 = i by omega, show 4 * i % 4 = 0 by omega]
theorem out1 (s : List UInt32) (i : Nat) : UInt8.ofNat ((s.getD i 0).toNat / 2 ^ 16) = outByte s (4 * i + 1) := by
  unfold outByte; rw [show (4 * i + 1) / 4 = i by omega, show (4 * i + 1) % 4 = 1 by omega]
theorem out2 (s : List UInt32) (i : Nat) : UInt8.ofNat ((s.getD i 0).toNat / 2 ^ 8) = outByte s (4 * i + 2) := by
  unfold outByte; rw [show (4 * i + 2) / 4 = i by omega, show (4 * i + 2) % 4 = 2 by omega]
theorem out3 (s : List UInt32) (i : Nat) : UInt8.ofNat (s.getD i 0).toNat = outByte s (4 * i + 3) := by
  unfold outByte; rw [show (4 * i + 3) / 4 = i by omega, show (4 * i + 3) % 4 = 3 by omega]; simp
end Go.Sha
set_option linter.unusedVariables false
set_option linter.unusedSimpArgs false
namespace Go.Mac
def hkey (key : List UInt8) : List UInt8 := if key.length > 64 then Sha.sum key else key
theorem hkey_le (key : List UInt8) : (hkey key).length ≤ 64 := by
  unfold hkey; split
  · simp
  · omega
def fill (l : List UInt8) : List UInt8 := l ++ List.replicate (64 - l.length) 0
theorem fill_length {l : List UInt8} (h : l.length ≤ 64) : (fill l).length = 64 := by simp [fill]; omega
def padded (key : List UInt8) (x : UInt8) : List UInt8 := (List.range 64).map fun j => (fill (hkey key)).getD j 0 ^^^ x
@[simp] theorem padded_length (key : List UInt8) (x : UInt8) : (padded key x).length = 64 := by simp [padded]
def sum (key b : List UInt8) : List UInt8 := Sha.sum (padded key 92 ++ Sha.sum (padded key 54 ++ b))
@[simp] theorem sum_length (key b : List UInt8) : (sum key b).length = 32 := Sha.sum_length _
def exp (key text : List UInt8) : Nat → List UInt8
  | 0 => []
  | k + 1 => exp key text k ++ sum key ((exp key text k).drop ((exp key text k).length - 32) ++ text ++ [UInt8.ofNat (k + 1)])
theorem exp_length (key text : List UInt8) (k : Nat) : (exp key text k).length = 32 * k := by
  induction k with
  | zero => rfl
  | succ k ih => rw [exp, List.length_append, ih, sum_length]; omega
def expand (key text : List UInt8) (n : Nat) : List UInt8 := (exp key text ((n + 31) / 32)).take n
theorem expand_length (key text : List UInt8) (n : Nat) : (expand key text n).length = n := by
  rw [expand, List.length_take, exp_length]; omega
theorem copy64 {l : List UInt8} (h : l.length ≤ 64) : (List.replicate 64 (0 : UInt8)).take 0 ++ l.take 64 ++ (List.replicate 64 0).drop (0 + min l.length 64) = fill l := by
  rw [List.take_of_length_le (l := l) h, Nat.min_eq_left h, List.drop_replicate, fill]
  simp
def pcat (l1 l2 : List UInt8) : Nat → List UInt8
  | 0 => []
  | 1 => l1
  | _ => l1 ++ l2
theorem pcat_len (l1 l2 : List UInt8) (i : Nat) : (pcat l1 l2 i).length ≤ l1.length + l2.length := by
  unfold pcat; split <;> simp
theorem odd_step {a b : List UInt8} {i : Nat} {odd : UInt8} (h : odd = 0 ↔ ∀ j, j < i → a.getD j 0 = b.getD j 0) : (odd ||| (a.getD i 0 ^^^ b.getD i 0)) = 0 ↔ ∀ j, j < i + 1 → a.getD j 0 = b.getD j 0 := by
  have e : (odd ||| (a.getD i 0 ^^^ b.getD i 0)) = 0 ↔ odd = 0 ∧ a.getD i 0 = b.getD i 0 := by
    have hx : (a.getD i 0 ^^^ b.getD i 0) = 0 ↔ a.getD i 0 = b.getD i 0 := UInt8.xor_eq_zero_iff
    rw [UInt8.or_eq_zero_iff, hx]
  rw [e, h]
  constructor
  · rintro ⟨h1, h2⟩ j hj
    by_cases hji : j = i
    · rw [hji]; exact h2
    · exact h1 j (by omega)
  · exact fun h1 => ⟨fun j hj => h1 j (by omega), h1 i (by omega)⟩
theorem exp_succ (key text : List UInt8) (k : Nat) : exp key text k ++ sum key ((exp key text k).drop (32 * k - 32) ++ text ++ [UInt8.ofNat (k + 1)]) = exp key text (k + 1) := by
  rw [exp, exp_length]
theorem byte_succ (k : Nat) : UInt8.ofNat (k + 1) + 1 = UInt8.ofNat (k + 1 + 1) := by
  apply UInt8.toNat_inj.1
  simp [UInt8.toNat_add]
theorem exp_take {key text : List UInt8} {n k : Nat} (h1 : n ≤ 32 * k) (h2 : 32 * k < n + 32) : (exp key text k).take n = expand key text n := by
  have : k = (n + 31) / 32 := by omega
  rw [expand, this]
end Go.Mac
set_option linter.unusedVariables false
set_option linter.unusedSimpArgs false
namespace Go.Seal
open Go.Aes
def ceil (n : Nat) : Nat := (n + 15) / 16 * 16
def padTo (b : List UInt8) : List UInt8 := b ++ List.replicate (ceil b.length - b.length) 0
theorem ceil_ge (n : Nat) : n ≤ ceil n ∧ ceil n < n + 16 ∧ ceil n % 16 = 0 := by unfold ceil; omega
@[simp] theorem padTo_length (b : List UInt8) : (padTo b).length = ceil b.length := by have := ceil_ge b.length; simp [padTo]; omega
def blk (B : List UInt8) (j : Nat) : List UInt8 := (B.drop (16 * j)).take 16
theorem blk_length {B : List UInt8} {j : Nat} (h : 16 * j + 16 ≤ B.length) : (blk B j).length = 16 := by simp [blk]; omega
def cl (k B : List UInt8) : Nat → List UInt8
  | 0 => List.replicate 16 0
  | j + 1 => enc k (xorB (blk B j) (cl k B j))
@[simp] theorem cl_length (k B : List UInt8) (j : Nat) : (cl k B j).length = 16 := by
  cases j with
  | zero => rw [cl, List.length_replicate]
  | succ j => rw [cl, enc_length]
def co (k B : List UInt8) : Nat → List UInt8
  | 0 => []
  | j + 1 => co k B j ++ cl k B (j + 1)
@[simp] theorem co_length (k B : List UInt8) (j : Nat) : (co k B j).length = 16 * j := by
  induction j with
  | zero => rfl
  | succ j ih => rw [co, List.length_append, ih, cl_length]; omega
def chain (k b : List UInt8) : List UInt8 := co k (padTo b) (ceil b.length / 16)
@[simp] theorem chain_length (k b : List UInt8) : (chain k b).length = ceil b.length := by
  have := ceil_ge b.length
  rw [chain, co_length]; omega
def swapL (l : List UInt8) : List UInt8 := if l.length < 32 then l else l.take (l.length - 32) ++ l.drop (l.length - 16) ++ (l.drop (l.length - 32)).take 16
@[simp] theorem swapL_length (l : List UInt8) : (swapL l).length = l.length := by
  unfold swapL; split
  · rfl
  · simp; omega
theorem swapL_three (x y z : List UInt8) (hy : y.length = 16) (hz : z.length = 16) : swapL (x ++ y ++ z) = x ++ z ++ y := by
  have hl : (x ++ y ++ z).length = x.length + 32 := by simp; omega
  rw [swapL, if_neg (by omega), hl]
  have e1 : x.length + 32 - 32 = x.length := by omega
  have e2 : x.length + 32 - 16 = (x ++ y).length := by simp; omega
  rw [e1, e2, List.drop_left, List.append_assoc x y z, List.take_left, List.drop_left, List.take_append_of_le_length (by omega), List.take_of_length_le (by omega)]
def body (k b : List UInt8) : List UInt8 := (swapL (chain k b)).take b.length
theorem body_length (k b : List UInt8) : (body k b).length = b.length := by
  have := ceil_ge b.length
  simp [body]; omega
def tag (t b : List UInt8) : List UInt8 := (Mac.sum t (List.replicate 16 0 ++ b)).take 16
@[simp] theorem tag_length (t b : List UInt8) : (tag t b).length = 16 := by simp [tag]
def sealed (k t conf text : List UInt8) : List UInt8 := body k (conf ++ text) ++ tag t (body k (conf ++ text))
def whole (k c : List UInt8) : List UInt8 := swapL (if c.length % 16 > 0 then c ++ (dec k ((c.drop (c.length - c.length % 16 - 16)).take 16)).drop (c.length % 16) else c)
def prev (W : List UInt8) : Nat → List UInt8
  | 0 => List.replicate 16 0
  | j + 1 => blk W j
def uo (k W : List UInt8) : Nat → List UInt8
  | 0 => []
  | j + 1 => uo k W j ++ xorB (dec k (blk W j)) (prev W j)
@[simp] theorem uo_length (k W : List UInt8) (j : Nat) : (uo k W j).length = 16 * j := by
  induction j with
  | zero => rfl
  | succ j ih => rw [uo, List.length_append, ih, xorB_length]; omega
def opened (k c : List UInt8) : List UInt8 := ((uo k (whole k c) ((whole k c).length / 16)).take c.length).drop 16
theorem sealed_length (k t conf text : List UInt8) (hc : conf.length = 16) : (sealed k t conf text).length = text.length + 32 := by
  simp [sealed, body_length, hc]; omega
end Go.Seal
set_option linter.unusedVariables false
set_option linter.unusedSimpArgs false
namespace Go.Seal
open Go.Aes
def ek (key : List UInt8) (use : Int) : List UInt8 := Mac.expand key ([101] ++ Lib.itoa use) 16
def ik (key : List UInt8) (use : Int) : List UInt8 := Mac.expand key ([105] ++ Lib.itoa use) 16
@[simp] theorem ek_length (key : List UInt8) (use : Int) : (ek key use).length = 16 := Mac.expand_length ..
@[simp] theorem ik_length (key : List UInt8) (use : Int) : (ik key use).length = 16 := Mac.expand_length ..
def Good (key : List UInt8) (use : Int) : Prop := key.length = 16 ∧ 0 ≤ use ∧ use < 256
instance (key : List UInt8) (use : Int) : Decidable (Good key use) := by unfold Good; infer_instance
def tagR (key : List UInt8) (use : Int) (b : List UInt8) : List UInt8 × Int := if Good key use then (tag (ik key use) b, 0) else ([], 2)
def sealR (key : List UInt8) (use : Int) (conf text : List UInt8) : List UInt8 × Int :=
  if Good key use ∧ conf.length = 16 then (if text.length ≤ 4096 then (sealed (ek key use) (ik key use) conf text, 0) else ([], 3)) else ([], 2)
theorem sealR_ok {key : List UInt8} {use : Int} {conf text : List UInt8} (h : Good key use) (hc : conf.length = 16) (ht : text.length ≤ 4096) : sealR key use conf text = (sealed (ek key use) (ik key use) conf text, 0) := by
  rw [sealR, if_pos ⟨h, hc⟩, if_pos ht]
def turned (B : List UInt8) (k : Nat) (x : UInt8) (c : Nat) : List UInt8 := (B.set k (B.getD k 0 ^^^ x)).take (B.length - c)
@[simp] theorem turned_length (B : List UInt8) (k : Nat) (x : UInt8) (c : Nat) : (turned B k x c).length = B.length - c := by simp [turned]
theorem three {l : List UInt8} (h : 32 ≤ l.length) : ∃ x y z, l = x ++ y ++ z ∧ y.length = 16 ∧ z.length = 16 := by
  refine ⟨l.take (l.length - 32), (l.drop (l.length - 32)).take 16, (l.drop (l.length - 32)).drop 16, ?_, ?_, ?_⟩
  · rw [List.append_assoc, List.take_append_drop, List.take_append_drop]
  · simp; omega
  · simp; omega
end Go.Seal
set_option linter.unusedVariables false
set_option linter.unusedSimpArgs false
namespace Go.Sha
theorem wl_take (blk : List UInt8) {n : Nat} (h : n < 64) : (wl blk (n + 1)).take (n + 1) = (wl blk n).take n ++ [if n < 16 then word0 blk n else next (wl blk n) n] := by
  have hl := wl_length blk n
  rw [wl]
  apply List.ext_getElem
  · rw [List.length_take, List.length_set, List.length_append, List.length_take, hl, List.length_singleton]; omega
  · intro j h1 h2
    simp only [List.length_take, List.length_set, hl] at h1
    have hj : j < n + 1 := by omega
    rw [List.getElem_take, List.getElem_set]
    by_cases e : n = j
    · subst e
      rw [if_pos rfl, List.getElem_append_right (by rw [List.length_take]; omega)]
      simp
    · rw [if_neg e, List.getElem_append_left (by rw [List.length_take]; omega)]
      simp
theorem wl_at (blk : List UInt8) {t j : Nat} (h : j < t) (ht : t ≤ 64) : ((wl blk t).take t)[j]? = some ((wl blk t).getD j 0) := by
  have hl := wl_length blk t
  rw [List.getElem?_take, if_pos h]
  simp [List.getD, hl, show j < 64 by omega]
def sumZ (st r : List UInt32) : Nat → List UInt32
  | 0 => List.replicate 8 0
  | i + 1 => (sumZ st r i).set i (st.getD i 0 + r.getD i 0)
@[simp] theorem sumZ_length (st r : List UInt32) (n : Nat) : (sumZ st r n).length = 8 := by
  induction n with
  | zero => rfl
  | succ n ih => rw [sumZ, List.length_set, ih]
theorem sums_getD (st r : List UInt32) : ∀ n j, n ≤ st.length → j < st.length → (sums st r n).getD j 0 = if j < n then st.getD j 0 + r.getD j 0 else st.getD j 0 := by
  intro n
  induction n with
  | zero => intro j _ _; simp [sums]
  | succ n ih =>
    intro j hn hj
    have hl := sums_length st r n
    rw [sums]
    by_cases e : j = n
    · subst e
      have h2 := ih j (by omega) hj
      rw [if_neg (by omega)] at h2
      rw [h2, if_pos (by omega)]
      simp [List.getD, hl, hj]
    · have h2 := ih j (by omega) hj
      have h3 : ((sums st r n).set n ((sums st r n).getD n 0 + r.getD n 0)).getD j 0 = (sums st r n).getD j 0 := by
        simp only [List.getD, List.getElem?_set]
        rw [if_neg (by omega)]
      rw [h3, h2]
      by_cases h4 : j < n
      · rw [if_pos h4, if_pos (by omega)]
      · rw [if_neg h4, if_neg (by omega)]
theorem sumZ_getD (st r : List UInt32) : ∀ n j, n ≤ 8 → j < 8 → (sumZ st r n).getD j 0 = if j < n then st.getD j 0 + r.getD j 0 else 0 := by
  intro n
  induction n with
  | zero =>
    intro j _ hj
    simp only [sumZ, List.getD, List.getElem?_replicate]
    rw [if_pos hj, if_neg (by omega)]
    rfl
  | succ n ih =>
    intro j hn hj
    have hl := sumZ_length st r n
    rw [sumZ]
    by_cases e : j = n
    · subst e
      rw [if_pos (by omega)]
      simp [List.getD, hl, hj]
    · have h2 := ih j (by omega) hj
      have h3 : ((sumZ st r n).set n (st.getD n 0 + r.getD n 0)).getD j 0 = (sumZ st r n).getD j 0 := by
        simp only [List.getD, List.getElem?_set]
        rw [if_neg (by omega)]
      rw [h3, h2]
      by_cases h4 : j < n
      · rw [if_pos h4, if_pos (by omega)]
      · rw [if_neg h4, if_neg (by omega)]
theorem sumZ_all {st : List UInt32} (r : List UInt32) (h : st.length = 8) : sumZ st r 8 = sums st r 8 := by
  have h1 := sumZ_length st r 8
  have h2 := sums_length st r 8
  apply List.ext_getElem
  · omega
  · intro j h3 h4
    have e1 := sumZ_getD st r 8 j (Nat.le_refl _) (by omega)
    have e2 := sums_getD st r 8 j (by omega) (by omega)
    rw [if_pos (by omega)] at e1 e2
    rw [← e2] at e1
    rw [List.getD, List.getD, List.getElem?_eq_getElem h3, List.getElem?_eq_getElem h4] at e1
    exact e1
def padZ (l : List UInt8) (k : Nat) : List UInt8 := l ++ [128] ++ List.replicate k 0
@[simp] theorem padZ_length (l : List UInt8) (k : Nat) : (padZ l k).length = l.length + 1 + k := by simp [padZ]; omega
theorem padZ_succ (l : List UInt8) (k : Nat) : padZ l k ++ [0] = padZ l (k + 1) := by
  rw [padZ, padZ, List.append_assoc, List.replicate_succ']
def tailK (x k : Nat) : List UInt8 := List.replicate (8 - k) 0 ++ be x k
@[simp] theorem tailK_length (x : Nat) {k : Nat} (h : k ≤ 8) : (tailK x k).length = 8 := by
  simp [tailK, be_length]; omega
theorem tailK_step (x : Nat) {k : Nat} (h : k < 8) : (tailK x k).set (7 - k) (UInt8.ofNat (x / 256 ^ k % 256)) = tailK x (k + 1) := by
  have e : UInt8.ofNat (x / 256 ^ k % 256) = UInt8.ofNat (x / 256 ^ k) := by
    apply UInt8.toNat_inj.1
    rw [UInt8.toNat_ofNat', UInt8.toNat_ofNat']
    omega
  rw [e, tailK, tailK, be_cons, show 8 - k = (8 - (k + 1)) + 1 by omega, List.replicate_succ']
  rw [set_mid (List.replicate (8 - (k + 1)) 0) (be x k) 0 _ (7 - k) (by rw [List.length_replicate]; omega), List.append_assoc]
  rfl
def outQ (s : List UInt32) (i : Nat) : Nat → List UInt8
  | 0 => Aes.upTo (4 * i) (outByte s) (List.replicate 32 0)
  | q + 1 => (outQ s i q).set (4 * i + 3 - q) (outByte s (4 * i + 3 - q))
@[simp] theorem outQ_length (s : List UInt32) (i q : Nat) : (outQ s i q).length = 32 := by
  induction q with
  | zero => simp [outQ]
  | succ q ih => rw [outQ, List.length_set, ih]
theorem outQ_all (s : List UInt32) (i : Nat) : outQ s i 4 = outQ s (i + 1) 0 := by
  simp only [outQ]
  rw [show 4 * (i + 1) = 4 * i + 1 + 1 + 1 + 1 by omega, ← Aes.upTo_set, ← Aes.upTo_set, ← Aes.upTo_set, ← Aes.upTo_set]
  rw [show 4 * i + 3 - 0 = 4 * i + 1 + 1 + 1 by omega, show 4 * i + 3 - 1 = 4 * i + 1 + 1 by omega, show 4 * i + 3 - 2 = 4 * i + 1 by omega, show 4 * i + 3 - 3 = 4 * i by omega]
  generalize Aes.upTo (4 * i) (outByte s) (List.replicate 32 0) = U
  apply List.ext_getElem
  · simp
  · intro j h1 h2
    simp only [List.getElem_set]
    by_cases e0 : 4 * i = j
    · subst e0; simp
    · by_cases e1 : 4 * i + 1 = j
      · subst e1; simp
      · by_cases e2 : 4 * i + 1 + 1 = j
        · subst e2; simp; intro h; omega
        · simp [e0, e1, e2]
theorem outQ_byte (s : List UInt32) (i : Nat) {q : Nat} (h : q < 4) : outByte s (4 * i + 3 - q) = UInt8.ofNat ((s.getD i 0).toNat / 256 ^ q % 256) := by
  have e : ∀ m, UInt8.ofNat (m % 256) = UInt8.ofNat m := fun m => by
    apply UInt8.toNat_inj.1
    rw [UInt8.toNat_ofNat', UInt8.toNat_ofNat']
    omega
  rw [e, outByte, show (4 * i + 3 - q) / 4 = i by omega, show (4 * i + 3 - q) % 4 = 3 - q by omega]
  rcases (by omega : q = 0 ∨ q = 1 ∨ q = 2 ∨ q = 3) with rfl | rfl | rfl | rfl <;> rfl
end Go.Sha
namespace Go.Sha
theorem of_list {st : List UInt32} (h : st.length = 8) : st = (S.of st).list := by
  apply List.ext_getElem
  · exact h
  · intro j h1 h2
    have : j < 8 := by omega
    rcases (by omega : j = 0 ∨ j = 1 ∨ j = 2 ∨ j = 3 ∨ j = 4 ∨ j = 5 ∨ j = 6 ∨ j = 7) with rfl | rfl | rfl | rfl | rfl | rfl | rfl | rfl <;> simp [S.of, S.list, h1]
end Go.Sha
namespace Go.Sha
theorem blk_of {l : List UInt8} {m : Nat} (h : 64 * m + 64 ≤ l.length) : (List.range 64).map (fun j => l.getD (64 * m + j) 0) = (l.drop (64 * m)).take 64 := by
  apply List.ext_getElem
  · rw [List.length_map, List.length_range, List.length_take, List.length_drop]; omega
  · intro j h1 h2
    simp only [List.length_map, List.length_range] at h1
    simp only [List.getElem_map, List.getElem_range, List.getElem_take, List.getElem_drop]
    rw [List.getD_eq_getElem?_getD, List.getElem?_eq_getElem (by omega)]
    rfl
end Go.Sha
set_option linter.unusedVariables false
set_option linter.unusedSimpArgs false
namespace Go.Mac
theorem exp_drop (key text : List UInt8) (k : Nat) (s : List UInt8) : (exp key text k ++ s).drop (32 * k) = s := by
  rw [List.drop_left' (exp_length key text k)]
theorem fill_at (l : List UInt8) (x : UInt8) (j : Nat) : (fill l).getD j 0 ^^^ x = if j < l.length then l.getD j 0 ^^^ x else x := by
  rw [fill]
  by_cases h : j < l.length
  · rw [if_pos h]
    congr 1
    simp [List.getD, List.getElem?_append, h]
  · rw [if_neg h]
    have e : (l ++ List.replicate (64 - l.length) (0 : UInt8)).getD j 0 = 0 := by
      simp only [List.getD, List.getElem?_append, h, if_false, List.getElem?_replicate]
      split <;> rfl
    rw [e, UInt8.zero_xor]
end Go.Mac
namespace Go.Seal
open Go.Aes
def cat (f : Nat → List UInt8) : Nat → List UInt8
  | 0 => []
  | i + 1 => cat f i ++ f i
theorem cat_length {f : Nat → List UInt8} : ∀ {m : Nat}, (∀ j, j < m → (f j).length = 16) → (cat f m).length = 16 * m := by
  intro m
  induction m with
  | zero => intro _; rfl
  | succ m ih =>
    intro h
    rw [cat, List.length_append, ih (fun j hj => h j (by omega)), h m (by omega)]; omega
theorem cat_congr {f f' : Nat → List UInt8} : ∀ {m : Nat}, (∀ j, j < m → f j = f' j) → cat f m = cat f' m := by
  intro m
  induction m with
  | zero => intro _; rfl
  | succ m ih => intro h; rw [cat, cat, ih (fun j hj => h j (by omega)), h m (by omega)]
theorem cat_co (k B : List UInt8) (m : Nat) : cat (fun j => cl k B (j + 1)) m = co k B m := by
  induction m with
  | zero => rfl
  | succ m ih => rw [cat, co, ih]
def swapped (f : Nat → List UInt8) (m : Nat) (j : Nat) : List UInt8 := if 1 < m then (if j = m - 2 then f (m - 1) else if j = m - 1 then f (m - 2) else f j) else f j
theorem swapped_length {f : Nat → List UInt8} {m j : Nat} (h : ∀ j, (f j).length = 16) : (swapped f m j).length = 16 := by
  unfold swapped
  repeat' split
  all_goals exact h _
theorem cat_swapped (f : Nat → List UInt8) (m : Nat) (h : ∀ j, (f j).length = 16) : cat (swapped f m) m = swapL (cat f m) := by
  by_cases h1 : 1 < m
  · obtain ⟨q, rfl⟩ : ∃ q, m = q + 2 := ⟨m - 2, by omega⟩
    have e : cat (swapped f (q + 2)) q = cat f q := cat_congr fun j hj => by
      rw [swapped, if_pos h1, if_neg (by omega), if_neg (by omega)]
    have e1 : swapped f (q + 2) q = f (q + 1) := by rw [swapped, if_pos h1, if_pos (by omega)]; rfl
    have e2 : swapped f (q + 2) (q + 1) = f q := by rw [swapped, if_pos h1, if_neg (by omega), if_pos (by omega)]; rfl
    rw [cat, cat, e, e1, e2, cat, cat, swapL_three _ _ _ (h _) (h _)]
  · have hl := cat_length (f := f) (m := m) (fun j _ => h j)
    rw [swapL, if_pos (by omega)]
    exact cat_congr fun j _ => by rw [swapped, if_neg h1]
end Go.Seal
namespace Go.Seal
open Go.Aes
def pre (x : Nat) : List UInt8 := if x = 0 then [] else Lib.decDigits x
theorem pre_step {x : Nat} (h : 0 < x) : pre x = pre (x / 10) ++ [UInt8.ofNat (48 + x % 10)] := by
  rw [pre, if_neg (by omega), Lib.decDigits]
  by_cases h1 : x < 10
  · rw [dif_pos h1, pre, if_pos (by omega), Nat.mod_eq_of_lt h1]
    rfl
  · rw [dif_neg h1, pre, if_neg (by omega)]
theorem xor_blk (k B : List UInt8) (j : Nat) : (List.range 16).map (fun i => (cl k B j).getD i 0 ^^^ B.getD (16 * j + i) 0) = xorB (blk B j) (cl k B j) := by
  rw [xorB]
  apply List.map_congr_left
  intro i hi
  have hi' := List.mem_range.1 hi
  rw [UInt8.xor_comm]
  congr 1
  rw [blk]
  simp only [List.getD, List.getElem?_take, List.getElem?_drop]
  rw [if_pos hi']
theorem pad_in {b : List UInt8} {i : Nat} (h : i < b.length) : (padTo b).getD i 0 = b.getD i 0 := by
  rw [padTo]
  simp [List.getD, List.getElem?_append, h]
theorem pad_out {b : List UInt8} {i : Nat} (h : ¬ i < b.length) : (padTo b).getD i 0 = 0 := by
  rw [padTo]
  simp only [List.getD, List.getElem?_append, h, if_false, List.getElem?_replicate]
  split <;> rfl
end Go.Seal
