/- AES as the document reckons it: the same functions by other ways. -/
import Derived.Test.YtanogodfnfkkbaaAesInv
set_option linter.unusedVariables false
set_option linter.unusedSimpArgs false
namespace Go.Aes
/-! ### products over whole numbers -/
theorem twice_big (x : UInt8) : 256 ≤ 2 * x.toNat → (2 * x.toNat) ^^^ 283 = (twice x).toNat := all8 (P := fun x => 256 ≤ 2 * x.toNat → (2 * x.toNat) ^^^ 283 = (twice x).toNat) (by decide +kernel) x
theorem twice_small (x : UInt8) : ¬ 256 ≤ 2 * x.toNat → 2 * x.toNat = (twice x).toNat := all8 (P := fun x => ¬ 256 ≤ 2 * x.toNat → 2 * x.toNat = (twice x).toNat) (by decide +kernel) x
theorem odd_and (b : UInt8) : b.toNat % 2 = 1 → b &&& 1 = 1 := all8 (P := fun b => b.toNat % 2 = 1 → b &&& 1 = 1) (by decide +kernel) b
theorem even_and (b : UInt8) : ¬ b.toNat % 2 = 1 → b &&& 1 = 0 := all8 (P := fun b => ¬ b.toNat % 2 = 1 → b &&& 1 = 0) (by decide +kernel) b
theorem odd_step (p a b : UInt8) (h : b.toNat % 2 = 1) : p ^^^ a * (b &&& 1) = p ^^^ a := by rw [odd_and b h, UInt8.mul_one]
theorem even_step (p a b : UInt8) (h : ¬ b.toNat % 2 = 1) : p ^^^ a * (b &&& 1) = p := by rw [even_and b h, UInt8.mul_zero, UInt8.xor_zero]
/-! ### the substitute by inverse and turning -/
theorem inv_zero : inv 0 = 0 := by decide +kernel
def rot (t : UInt8) : UInt8 := t * 2 + t / 128
def affT (v : UInt8) : Nat → UInt8
  | 0 => v
  | k + 1 => rot (affT v k)
def affS (v : UInt8) : Nat → UInt8
  | 0 => v
  | k + 1 => affS v k ^^^ affT v (k + 1)
theorem sub_aff (x : UInt8) : affS (inv x) 4 ^^^ 99 = sub x := all8 (P := fun x => affS (inv x) 4 ^^^ 99 = sub x) (by decide +kernel) x
/-- what the search has found behind the bytes below i -/
def Found (x : UInt8) (i : Nat) (v : UInt8) : Prop := v = inv x ∨ (v = 0 ∧ ∀ j, 1 ≤ j → j < i → ¬ times x (UInt8.ofNat j) = 1)
theorem Found.hit {x : UInt8} {i : Nat} (h : times x (UInt8.ofNat i) = 1) : Found x (i + 1) (UInt8.ofNat i) := .inl (inv_unique h)
theorem Found.miss {x : UInt8} {i : Nat} {v : UInt8} (hf : Found x i v) (h : ¬ times x (UInt8.ofNat i) = 1) : Found x (i + 1) v := by
  rcases hf with hf | ⟨h1, h2⟩
  · exact .inl hf
  · exact .inr ⟨h1, fun j hj hk => by
      by_cases e : j = i
      · rw [e]; exact h
      · exact h2 j hj (by omega)⟩
theorem Found.all {x : UInt8} {v : UInt8} (hf : Found x 256 v) : v = inv x := by
  rcases hf with hf | ⟨h1, h2⟩
  · exact hf
  · by_cases hx : x = 0
    · rw [hx, inv_zero, h1]
    · have hi := times_inv x hx
      have hne : inv x ≠ 0 := fun e => by
        rw [e, times_zero_r] at hi; exact absurd hi (by decide)
      have h3 := h2 (inv x).toNat (by
        have : (inv x).toNat ≠ 0 := fun e => hne (UInt8.toNat_inj.1 (by simpa using e))
        omega) (inv x).toNat_lt
      rw [UInt8.ofNat_toNat] at h3
      exact absurd hi h3
/-! ### the table by the powers of three -/
set_option maxRecDepth 10000 in
def powL : List UInt8 := [
  1, 3, 5, 15, 17, 51, 85, 255, 26, 46, 114, 150, 161, 248, 19, 53,
  95, 225, 56, 72, 216, 115, 149, 164, 247, 2, 6, 10, 30, 34, 102, 170,
  229, 52, 92, 228, 55, 89, 235, 38, 106, 190, 217, 112, 144, 171, 230, 49,
  83, 245, 4, 12, 20, 60, 68, 204, 79, 209, 104, 184, 211, 110, 178, 205,
  76, 212, 103, 169, 224, 59, 77, 215, 98, 166, 241, 8, 24, 40, 120, 136,
  131, 158, 185, 208, 107, 189, 220, 127, 129, 152, 179, 206, 73, 219, 118, 154,
  181, 196, 87, 249, 16, 48, 80, 240, 11, 29, 39, 105, 187, 214, 97, 163,
  254, 25, 43, 125, 135, 146, 173, 236, 47, 113, 147, 174, 233, 32, 96, 160,
  251, 22, 58, 78, 210, 109, 183, 194, 93, 231, 50, 86, 250, 21, 63, 65,
  195, 94, 226, 61, 71, 201, 64, 192, 91, 237, 44, 116, 156, 191, 218, 117,
  159, 186, 213, 100, 172, 239, 42, 126, 130, 157, 188, 223, 122, 142, 137, 128,
  155, 182, 193, 88, 232, 35, 101, 175, 234, 37, 111, 177, 200, 67, 197, 84,
  252, 31, 33, 99, 165, 244, 7, 9, 27, 45, 119, 153, 176, 203, 70, 202,
  69, 207, 74, 222, 121, 139, 134, 145, 168, 227, 62, 66, 198, 81, 243, 14,
  18, 54, 90, 238, 41, 123, 141, 140, 143, 138, 133, 148, 167, 242, 13, 23,
  57, 75, 221, 124, 132, 151, 162, 253, 28, 36, 108, 180, 199, 82, 246]
set_option maxRecDepth 10000 in
theorem powL_len : powL.length = 255 := rfl
theorem powL_step {i : Nat} (h : i < 254) : times (powL.getD i 0) 3 = powL.getD (i + 1) 0 := by
  have : ∀ i : Fin 254, times (powL.getD i.val 0) 3 = powL.getD (i.val + 1) 0 := by decide +kernel
  exact this ⟨i, h⟩
/-- the next power, and behind the last again the first -/
def pw (i : Nat) : UInt8 := if i < 255 then powL.getD i 0 else 1
theorem pw_step {i : Nat} (h : i < 255) : times (pw i) 3 = pw (i + 1) := by
  have : ∀ i : Fin 255, times (pw i.val) 3 = pw (i.val + 1) := by decide +kernel
  exact this ⟨i, h⟩
def pwL (n : Nat) : List UInt8 := (List.range n).map pw
theorem pwL_succ (n : Nat) : pwL n ++ [pw n] = pwL (n + 1) := by simp [pwL, List.range_succ]
theorem pwL_len (n : Nat) : (pwL n).length = n := by simp [pwL]
theorem pwL_at {n j : Nat} (h : j < n) : (pwL n).getD j 0 = pw j := by simp [pwL, List.getD, h]
def tabAt : Nat → List UInt8
  | 0 => (zeros 256).set 0 99
  | e + 1 => (tabAt e).set (pw e).toNat (affS (pw ((255 - e) % 255)) 4 ^^^ 99)
theorem tabAt_len (e : Nat) : (tabAt e).length = 256 := by
  induction e with
  | zero => rw [tabAt, List.length_set, zeros, List.length_replicate]
  | succ e ih => simp [tabAt, ih]
theorem tabAt_all : tabAt 255 = boxL := by decide +kernel
/-! ### the table turned round -/
def unAt : Nat → List UInt8
  | 0 => zeros 256
  | i + 1 => (unAt i).set (boxL.getD i 0).toNat (UInt8.ofNat i)
theorem unAt_len (i : Nat) : (unAt i).length = 256 := by
  induction i with
  | zero => rw [unAt, zeros, List.length_replicate]
  | succ e ih => simp [unAt, ih]
theorem unAt_all : unAt 256 = (List.range 256).map fun x => back (UInt8.ofNat x) := by decide +kernel
theorem unAt_at (x : UInt8) : (unAt 256).getD x.toNat 0 = back x := by
  rw [unAt_all]
  have := x.toNat_lt
  simp [List.getD, this]
theorem box_at (x : UInt8) : boxL.getD x.toNat 0 = sub x := rfl
/-! ### the words of the keys -/
def word (key : List UInt8) (i : Nat) : List UInt8 :=
  if i % 4 = 0 then [sub (kf key (4 * i - 3)) ^^^ pow (i / 4 - 1), sub (kf key (4 * i - 2)), sub (kf key (4 * i - 1)), sub (kf key (4 * i - 4))]
  else [kf key (4 * i - 4), kf key (4 * i - 3), kf key (4 * i - 2), kf key (4 * i - 1)]
theorem word_len (key : List UInt8) (i : Nat) : (word key i).length = 4 := by unfold word; split <;> rfl
theorem getD_set (l : List UInt8) (i j : Nat) (v : UInt8) (hj : j < l.length) : (l.set i v).getD j 0 = if i = j then v else l.getD j 0 := by
  simp [List.getD, List.getElem?_set, hj]
  split <;> simp_all
theorem lastAt_get (was : List UInt8) (p : UInt8) : ∀ j c, c < 4 → (lastAt was p j).getD c 0 = if j ≤ c then (last0 was p).getD c 0 else keyAt was p (4 * ((j - 1 - c) / 4) + c) := by
  intro j
  induction j with
  | zero => intro c hc; simp [lastAt]
  | succ j ih =>
    intro c hc
    rw [lastAt, getD_set _ _ _ _ (by rw [lastAt_length]; exact hc)]
    by_cases h : j % 4 = c
    · rw [if_pos h, if_neg (by omega)]
      have e : 4 * ((j + 1 - 1 - c) / 4) + c = j := by omega
      rw [e, keyAt_eq]
    · rw [if_neg h, ih c hc]
      by_cases h2 : j ≤ c
      · rw [if_pos h2, if_pos (by omega)]
      · rw [if_neg h2, if_neg (by omega)]
        congr 2
        omega
theorem kf_step (key : List UInt8) {i j : Nat} (h4 : 4 ≤ i) (hj : j < 4) : kf key (4 * i - 16 + j) ^^^ (word key i).getD j 0 = kf key (4 * i + j) := by
  obtain ⟨r, m, hm, rfl⟩ : ∃ r m, m < 4 ∧ i = 4 * (r + 1) + m := ⟨i / 4 - 1, i % 4, Nat.mod_lt _ (by decide), by omega⟩
  have e1 : 4 * (4 * (r + 1) + m) - 16 + j = 16 * r + (4 * m + j) := by omega
  have e2 : 4 * (4 * (r + 1) + m) + j = 16 * (r + 1) + (4 * m + j) := by omega
  rw [e1, e2, kf_at key r _ (by omega), kf_at key (r + 1) _ (by omega), rk_succ_at key r _ (by omega), keyAt_eq, UInt8.xor_comm]
  have e3 : (4 * m + j) % 4 = j := by omega
  rw [e3, lastAt_get _ _ _ _ hj]
  congr 1
  by_cases hm0 : m = 0
  · subst hm0
    rw [if_pos (by omega)]
    have f : ∀ c, 1 ≤ c → c ≤ 4 → kf key (4 * (4 * (r + 1) + 0) - c) = (rk key r).getD (16 - c) 0 := fun c h1 h2 => by
      rw [← kf_at key r (16 - c) (by omega)]; congr 1; omega
    rw [word, if_pos (by omega), f 3 (by omega) (by omega), f 2 (by omega) (by omega), f 1 (by omega) (by omega), f 4 (by omega) (by omega)]
    have e4 : (4 * (r + 1) + 0) / 4 - 1 = r := by omega
    rw [e4]
    rfl
  · rw [if_neg (by omega), word, if_neg (by omega)]
    have e5 : 4 * ((4 * m + j - 1 - j) / 4) + j = 4 * (m - 1) + j := by omega
    rw [e5, ← rk_succ_at key r _ (by omega), ← kf_at key (r + 1) _ (by omega)]
    have e6 : 16 * (r + 1) + (4 * (m - 1) + j) = 4 * (4 * (r + 1) + m) - (4 - j) := by omega
    rw [e6]
    rcases (by omega : j = 0 ∨ j = 1 ∨ j = 2 ∨ j = 3) with rfl | rfl | rfl | rfl <;> rfl
def kl (key : List UInt8) (n : Nat) : List UInt8 := (List.range n).map (kf key)
theorem kl_len (key : List UInt8) (n : Nat) : (kl key n).length = n := by simp [kl]
theorem kl_at (key : List UInt8) {n j : Nat} (h : j < n) : (kl key n).getD j 0 = kf key j := by simp [kl, List.getD, h]
theorem kl_succ (key : List UInt8) (n : Nat) : kl key n ++ [kf key n] = kl key (n + 1) := by simp [kl, List.range_succ]
theorem kl_16 {key : List UInt8} (h : key.length = 16) : kl key 16 = key := by
  refine ext16 (kl_len key 16) h fun j hj => ?_
  rw [kl_at key hj]
  have := kf_at key 0 j hj
  simpa [rk] using this
theorem kl_176 (key : List UInt8) : kl key 176 = keysL key := rfl
/-! ### blocks -/
theorem mixRef (i k : Nat) : i / 4 * 4 + (i + k) % 4 = i / 4 * 4 + (i + k) % 4 := rfl
theorem mix_ix {i k : Nat} (hi : i < 16) (hk : k < 4) : (i ^^^ (i &&& 3)) ||| ((i + k) &&& 3) = i / 4 * 4 + (i + k) % 4 := by
  have : ∀ i : Fin 16, ∀ k : Fin 4, (i.val ^^^ (i.val &&& 3)) ||| ((i.val + k.val) &&& 3) = i.val / 4 * 4 + (i.val + k.val) % 4 := by decide
  exact this ⟨i, hi⟩ ⟨k, hk⟩
theorem mixAcc_step (l m : List UInt8) {i k : Nat} (hi : i < 16) (hk : k < 4) : mixAcc l m i k ^^^ times (l.getD (i / 4 * 4 + (i + k) % 4) 0) (m.getD k 0) = mixAcc l m i (k + 1) := by
  rw [mixAcc, mix_ix hi hk]
theorem turn_sub (l : List UInt8) : turnB 1 (subB l) = (List.range 16).map fun j => sub (l.getD ((j + 4 * (j % 4)) % 16) 0) := by
  refine ext16 (by simp) (by simp) fun j hj => ?_
  rw [turnB, map_at _ hj, map_at _ hj, subB, map_at _ (Nat.mod_lt _ (by decide))]
/-- bytes put where they belong, one by one -/
def scat (l : List UInt8) (i : Nat) : List UInt8 := (List.range 16).map fun j => if (j + 12 * (j % 4)) % 16 < i then back (l.getD ((j + 12 * (j % 4)) % 16) 0) else 0
theorem scat_len (l : List UInt8) (i : Nat) : (scat l i).length = 16 := by simp [scat]
theorem scat_zero (l : List UInt8) : scat l 0 = zeros 16 := by
  refine ext16 (by simp [scat]) (by simp [zeros]) fun j hj => ?_
  rw [scat, map_at _ hj, if_neg (by omega), zeros, List.getD, List.getElem?_replicate, if_pos hj]
  rfl
theorem scat_step (l : List UInt8) {i : Nat} (hi : i < 16) : (scat l i).set ((i + 4 * (i % 4)) % 16) (back (l.getD i 0)) = scat l (i + 1) := by
  refine ext16 (by simp [scat]) (by simp [scat]) fun j hj => ?_
  rw [getD_set _ _ _ _ (by rw [scat_len]; exact hj), scat, scat, map_at _ hj, map_at _ hj]
  by_cases h : (i + 4 * (i % 4)) % 16 = j
  · have e : (j + 12 * (j % 4)) % 16 = i := by omega
    rw [if_pos h, e, if_pos (by omega)]
  · have e : (j + 12 * (j % 4)) % 16 ≠ i := by omega
    rw [if_neg h]
    by_cases h2 : (j + 12 * (j % 4)) % 16 < i
    · rw [if_pos h2, if_pos (by omega)]
    · rw [if_neg h2, if_neg (by omega)]
theorem scat_all (l : List UInt8) : scat l 16 = backB (turnB 3 l) := by
  refine ext16 (by simp [scat]) (by simp) fun j hj => ?_
  rw [scat, map_at _ hj, if_pos (Nat.mod_lt _ (by decide)), backB, map_at _ hj, turnB, map_at _ hj]
theorem set_get (l : List UInt8) (i : Nat) (v : UInt8) (h : i < l.length) : (l.set i v).getD i 0 = v := by rw [getD_set _ _ _ _ h, if_pos rfl]
theorem upTo_set0 (i n : Nat) (f : Nat → UInt8) : (upTo i f (List.replicate n 0)).set i 0 = upTo i f (List.replicate n 0) := by
  apply List.ext_getElem (by simp)
  intro j h1 h2
  rw [List.getElem_set]
  by_cases h : i = j
  · subst h
    simp only [upTo_length, List.length_replicate] at h2
    simp [upTo, List.getD, List.getElem?_replicate, h2]
  · rw [if_neg h]
/-! ### any key and block -/
def encR (key blk : List UInt8) : List UInt8 × Int := if key.length = 16 ∧ blk.length = 16 then (enc key blk, 0) else ([], 2)
def decR (key blk : List UInt8) : List UInt8 × Int := if key.length = 16 ∧ blk.length = 16 then (dec key blk, 0) else ([], 2)
def keysR (key : List UInt8) : List UInt8 × Int := if key.length = 16 then (keysL key, 0) else (List.replicate 176 0, 2)
theorem keysR_len (key : List UInt8) : (keysR key).1.length = 176 := by
  unfold keysR; split
  · exact keysL_length key
  · exact List.length_replicate ..
theorem pow_step (n : Nat) : times (pow n) 2 = pow (n + 1) := times_two _
end Go.Aes
