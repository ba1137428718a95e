/- AES as plain functions on bytes. -/
set_option linter.unusedVariables false
namespace Go.Aes
def twice (x : UInt8) : UInt8 := UInt8.ofNat (x.toNat * 2 ^ 1) ^^^ UInt8.ofNat (x.toNat / 2 ^ 7) * 27
def timesF : Nat → UInt8 → UInt8 → UInt8 → UInt8
  | 0, p, _, _ => p
  | k + 1, p, a, b => if b = 0 then p else timesF k (p ^^^ a * (b &&& 1)) (twice a) (UInt8.ofNat (b.toNat / 2 ^ 1))
def times (a b : UInt8) : UInt8 := timesF 8 0 a b
theorem timesF_zero (k : Nat) (p a : UInt8) : timesF k p a 0 = p := by cases k <;> simp [timesF]
theorem timesF_step (k : Nat) (p a b : UInt8) (h : ¬ b = 0) : timesF (k + 1) p a b = timesF k (p ^^^ a * (b &&& 1)) (twice a) (UInt8.ofNat (b.toNat / 2 ^ 1)) := by simp [timesF, h]
theorem half (b : UInt8) : (UInt8.ofNat (b.toNat / 2 ^ 1)).toNat = b.toNat / 2 := by
  have := b.toNat_lt; simp; omega
set_option maxRecDepth 10000 in
def boxL : List UInt8 := [
  99, 124, 119, 123, 242, 107, 111, 197, 48, 1, 103, 43, 254, 215, 171, 118,
  202, 130, 201, 125, 250, 89, 71, 240, 173, 212, 162, 175, 156, 164, 114, 192,
  183, 253, 147, 38, 54, 63, 247, 204, 52, 165, 229, 241, 113, 216, 49, 21,
  4, 199, 35, 195, 24, 150, 5, 154, 7, 18, 128, 226, 235, 39, 178, 117,
  9, 131, 44, 26, 27, 110, 90, 160, 82, 59, 214, 179, 41, 227, 47, 132,
  83, 209, 0, 237, 32, 252, 177, 91, 106, 203, 190, 57, 74, 76, 88, 207,
  208, 239, 170, 251, 67, 77, 51, 133, 69, 249, 2, 127, 80, 60, 159, 168,
  81, 163, 64, 143, 146, 157, 56, 245, 188, 182, 218, 33, 16, 255, 243, 210,
  205, 12, 19, 236, 95, 151, 68, 23, 196, 167, 126, 61, 100, 93, 25, 115,
  96, 129, 79, 220, 34, 42, 144, 136, 70, 238, 184, 20, 222, 94, 11, 219,
  224, 50, 58, 10, 73, 6, 36, 92, 194, 211, 172, 98, 145, 149, 228, 121,
  231, 200, 55, 109, 141, 213, 78, 169, 108, 86, 244, 234, 101, 122, 174, 8,
  186, 120, 37, 46, 28, 166, 180, 198, 232, 221, 116, 31, 75, 189, 139, 138,
  112, 62, 181, 102, 72, 3, 246, 14, 97, 53, 87, 185, 134, 193, 29, 158,
  225, 248, 152, 17, 105, 217, 142, 148, 155, 30, 135, 233, 206, 85, 40, 223,
  140, 161, 137, 13, 191, 230, 66, 104, 65, 153, 45, 15, 176, 84, 187, 22]
set_option maxRecDepth 10000 in
theorem boxL_len : boxL.length = 256 := rfl
def sub (x : UInt8) : UInt8 := boxL.getD x.toNat 0

/-! ### arrays that are filled from the front -/
def upTo (i : Nat) (f : Nat → UInt8) (l : List UInt8) : List UInt8 := (List.range l.length).map fun j => if j < i then f j else l.getD j 0
@[simp] theorem upTo_length (i : Nat) (f : Nat → UInt8) (l : List UInt8) : (upTo i f l).length = l.length := by simp [upTo]
theorem upTo_zero (f : Nat → UInt8) (l : List UInt8) : upTo 0 f l = l := by
  apply List.ext_getElem
  · simp
  · intro j h1 h2
    simp [upTo, List.getD, h2]
theorem upTo_set (i : Nat) (f : Nat → UInt8) (l : List UInt8) : (upTo i f l).set i (f i) = upTo (i + 1) f l := by
  apply List.ext_getElem
  · simp
  · intro j h1 h2
    simp only [upTo, List.getElem_set, List.getElem_map, List.getElem_range]
    by_cases hij : i = j
    · subst hij; simp
    · have : (j < i + 1) ↔ (j < i) := by omega
      simp [hij, this]
theorem upTo_all (f : Nat → UInt8) (l : List UInt8) (n : Nat) (h : l.length = n) : upTo n f l = (List.range n).map f := by
  subst h
  apply List.ext_getElem
  · simp
  · intro j h1 h2
    simp only [List.length_map, List.length_range] at h2
    simp [upTo, h2]
theorem upTo_getD (i : Nat) (f : Nat → UInt8) (l : List UInt8) (j : Nat) (h : j < l.length) : (upTo i f l).getD j 0 = if j < i then f j else l.getD j 0 := by
  simp [upTo, List.getD, h]
def xorB (l k : List UInt8) : List UInt8 := (List.range 16).map fun j => l.getD j 0 ^^^ k.getD j 0
def turnB (by_ : Nat) (l : List UInt8) : List UInt8 := (List.range 16).map fun j => l.getD ((j + 4 * by_ * (j % 4)) % 16) 0
def mixAcc (l by_ : List UInt8) (i : Nat) : Nat → UInt8
  | 0 => 0
  | k + 1 => mixAcc l by_ i k ^^^ times (l.getD ((i ^^^ (i &&& 3)) ||| ((i + k) &&& 3)) 0) (by_.getD k 0)
def mixB (l by_ : List UInt8) : List UInt8 := (List.range 16).map fun i => mixAcc l by_ i 4
@[simp] theorem xorB_length (l k : List UInt8) : (xorB l k).length = 16 := by simp [xorB]
@[simp] theorem turnB_length (b : Nat) (l : List UInt8) : (turnB b l).length = 16 := by simp [turnB]
@[simp] theorem mixB_length (l k : List UInt8) : (mixB l k).length = 16 := by simp [mixB]

theorem mix_lt {i k : Nat} (hi : i < 16) (hk : k < 4) : (i ^^^ (i &&& 3)) ||| ((i + k) &&& 3) < 16 := by
  have h1 : i ^^^ (i &&& 3) < 2 ^ 4 := Nat.xor_lt_two_pow hi (Nat.lt_of_le_of_lt Nat.and_le_left hi)
  have h2 : (i + k) &&& 3 < 2 ^ 4 := Nat.lt_of_le_of_lt Nat.and_le_right (by decide)
  exact Nat.or_lt_two_pow h1 h2
theorem mix_lt' {i k : Nat} (hi : i < 16) (hk : k < 4) : i ^^^ (i &&& 3) < 2 ^ 62 ∧ (i + k) &&& 3 < 2 ^ 62 := by
  have h1 : i ^^^ (i &&& 3) < 2 ^ 4 := Nat.xor_lt_two_pow hi (Nat.lt_of_le_of_lt Nat.and_le_left hi)
  have h2 : (i + k) &&& 3 < 2 ^ 4 := Nat.lt_of_le_of_lt Nat.and_le_right (by decide)
  omega
/-- the byte whose substitute x is -/
def back (x : UInt8) : UInt8 := UInt8.ofNat (boxL.findIdx fun y => decide (x = y))
theorem back_at {x : UInt8} {i : Nat} (h : ∀ j, j < i → ¬ x = boxL.getD j 0) (hi : i < 256) (hx : x = boxL.getD i 0) : back x = UInt8.ofNat i := by
  have : boxL.findIdx (fun y => decide (x = y)) = i := by
    have hl : i < boxL.length := by rw [boxL_len]; exact hi
    have e : boxL.getD i 0 = boxL[i] := by simp [List.getD, hl]
    rw [e] at hx
    refine (List.findIdx_eq hl).2 ⟨by simpa using hx, fun j hj => ?_⟩
    have hjl : j < boxL.length := by omega
    have := h j hj
    have e2 : boxL.getD j 0 = boxL[j] := by simp [List.getD, hjl]
    rw [e2] at this
    simpa using this
  rw [back, this]
theorem back_none {x : UInt8} (h : ∀ j, j < 256 → ¬ x = boxL.getD j 0) : back x = 0 := by
  have : boxL.findIdx (fun y => decide (x = y)) = 256 := by
    rw [← boxL_len]
    refine List.findIdx_eq_length.2 fun y hy => ?_
    obtain ⟨j, hj, rfl⟩ := List.mem_iff_getElem.1 hy
    have := h j (by rw [← boxL_len]; exact hj)
    have e2 : boxL.getD j 0 = boxL[j] := by simp [List.getD, hj]
    rw [e2] at this
    simpa using this
  rw [back, this]; rfl

/-! ### the keys of rounds -/
def last0 (was : List UInt8) (p : UInt8) : List UInt8 := [sub (was.getD 13 0) ^^^ p, sub (was.getD 14 0), sub (was.getD 15 0), sub (was.getD 12 0)]
def lastAt (was : List UInt8) (p : UInt8) : Nat → List UInt8
  | 0 => last0 was p
  | j + 1 => (lastAt was p j).set (j % 4) ((lastAt was p j).getD (j % 4) 0 ^^^ was.getD j 0)
@[simp] theorem lastAt_length (was : List UInt8) (p : UInt8) (j : Nat) : (lastAt was p j).length = 4 := by
  induction j with
  | zero => rfl
  | succ j ih => simp [lastAt, ih]
def keyAt (was : List UInt8) (p : UInt8) (j : Nat) : UInt8 := (lastAt was p (j + 1)).getD (j % 4) 0
def roundKey (was : List UInt8) (p : UInt8) : List UInt8 := (List.range 16).map (keyAt was p)
def pow : Nat → UInt8
  | 0 => 1
  | i + 1 => twice (pow i)
def rk (key : List UInt8) : Nat → List UInt8
  | 0 => key
  | i + 1 => roundKey (rk key i) (pow i)
theorem rk_length {key : List UInt8} (h : key.length = 16) (i : Nat) : (rk key i).length = 16 := by
  cases i with
  | zero => exact h
  | succ i => simp [rk, roundKey]
def zeros (n : Nat) : List UInt8 := List.replicate n 0
def kf (key : List UInt8) (j : Nat) : UInt8 := (rk key (j / 16)).getD (j % 16) 0
def keysL (key : List UInt8) : List UInt8 := (List.range 176).map (kf key)
theorem keyAt_eq (was : List UInt8) (p : UInt8) (j : Nat) : keyAt was p j = (lastAt was p j).getD (j % 4) 0 ^^^ was.getD j 0 := by
  simp [keyAt, lastAt, List.getD, Nat.mod_lt]
theorem kf_at (key : List UInt8) (i j : Nat) (hj : j < 16) : kf key (16 * i + j) = (rk key i).getD j 0 := by
  have h1 : (16 * i + j) / 16 = i := by omega
  have h2 : (16 * i + j) % 16 = j := by omega
  rw [kf, h1, h2]
theorem rk_succ_at (key : List UInt8) (i j : Nat) (hj : j < 16) : (rk key (i + 1)).getD j 0 = keyAt (rk key i) (pow i) j := by
  simp [rk, roundKey, List.getD, hj]

theorem key0' (n : Nat) (hn : 16 ≤ n) (key : List UInt8) (h : key.length = 16) : (List.replicate n (0 : UInt8)).take (0 * 16) ++ key ++ (List.replicate n 0).drop (0 * 16 + 16) = upTo (16 * (0 + 1)) (kf key) (List.replicate n 0) := by
  apply List.ext_getElem
  · simp [h]; omega
  · intro j h1 h2
    simp only [Nat.zero_mul, List.take_zero, List.nil_append, Nat.zero_add, List.getElem_append]
    simp only [upTo_length, List.length_replicate] at h2
    by_cases hj : j < 16
    · have hj' : j < key.length := by omega
      have e : kf key j = key[j] := by
        have := kf_at key 0 j hj
        simp only [Nat.mul_zero, Nat.zero_add] at this
        rw [this]; simp [rk, List.getD, hj']
      simp [upTo, hj, hj', e]
    · have hj' : ¬ j < key.length := by omega
      simp [upTo, hj, hj', List.getD, h2]
theorem key0 (key : List UInt8) (h : key.length = 16) : (List.replicate 176 (0 : UInt8)).take (0 * 16) ++ key ++ (List.replicate 176 0).drop (0 * 16 + 16) = upTo (16 * (0 + 1)) (kf key) (List.replicate 176 0) := key0' 176 (by decide) key h
theorem upTo_kf (key : List UInt8) (r j : Nat) (hr : r ≤ 10) (hj : j < 16) : (upTo (16 * (r + 1)) (kf key) (List.replicate 176 0)).getD (r * 16 + j) 0 = (rk key r).getD j 0 := by
  rw [upTo_getD _ _ _ _ (by rw [List.length_replicate]; omega), if_pos (by omega), ← kf_at key r j hj, Nat.mul_comm r 16]
theorem upTo_key (key : List UInt8) (r j : Nat) (hj : j < 16) :
    (upTo (16 * (r + 1) + j) (kf key) (List.replicate 176 0)).set ((r + 1) * 16 + j) ((lastAt (rk key r) (pow r) (j + 1)).getD (j % 4) 0) = upTo (16 * (r + 1) + (j + 1)) (kf key) (List.replicate 176 0) := by
  have e : (lastAt (rk key r) (pow r) (j + 1)).getD (j % 4) 0 = kf key (16 * (r + 1) + j) := by
    rw [kf_at key (r + 1) j hj, rk_succ_at key r j hj]; rfl
  rw [e, Nat.mul_comm (r + 1) 16, upTo_set]
  rfl

/-! ### blocks -/
def subB (l : List UInt8) : List UInt8 := (List.range 16).map fun j => sub (l.getD j 0)
def backB (l : List UInt8) : List UInt8 := (List.range 16).map fun j => back (l.getD j 0)
@[simp] theorem subB_length (l : List UInt8) : (subB l).length = 16 := by simp [subB]
@[simp] theorem backB_length (l : List UInt8) : (backB l).length = 16 := by simp [backB]
def encRound (key : List UInt8) (r : Nat) (l : List UInt8) : List UInt8 :=
  xorB (if r < 10 then mixB (turnB 1 (subB l)) [2, 3, 1, 1] else turnB 1 (subB l)) (rk key r)
def encAt (key l : List UInt8) : Nat → List UInt8
  | 0 => xorB l (rk key 0)
  | r + 1 => encRound key (r + 1) (encAt key l r)
def enc (key l : List UInt8) : List UInt8 := encAt key l 10
theorem encAt_length (key l : List UInt8) (r : Nat) : (encAt key l r).length = 16 := by cases r <;> simp [encAt, encRound]
@[simp] theorem enc_length (key l : List UInt8) : (enc key l).length = 16 := encAt_length key l 10
def decStep (key : List UInt8) (r : Nat) (l : List UInt8) : List UInt8 :=
  backB (turnB 3 (if r < 10 then mixB (xorB l (rk key r)) [14, 11, 13, 9] else xorB l (rk key r)))
def decAt (key l : List UInt8) : Nat → List UInt8
  | 0 => l
  | n + 1 => decStep key (10 - n) (decAt key l n)
theorem decAt_length (key : List UInt8) {l : List UInt8} (h : l.length = 16) (n : Nat) : (decAt key l n).length = 16 := by cases n <;> simp [decAt, decStep, h]
def dec (key l : List UInt8) : List UInt8 := xorB (decAt key l 10) (rk key 0)
@[simp] theorem dec_length (key l : List UInt8) : (dec key l).length = 16 := by simp [dec]
theorem keysL_at (key : List UInt8) (r j : Nat) (hr : r ≤ 10) (hj : j < 16) : (keysL key).getD (r * 16 + j) 0 = (rk key r).getD j 0 := by
  have h : r * 16 + j < 176 := by omega
  rw [← kf_at key r j hj, Nat.mul_comm 16 r]
  simp [keysL, List.getD, h]
@[simp] theorem keysL_length (key : List UInt8) : (keysL key).length = 176 := by simp [keysL]
end Go.Aes
