/- AES: deciphering undoes enciphering, and the other way. -/
import Derived.Test.YtanogodfnfkkbaaAesAlg
set_option linter.unusedVariables false
namespace Go.Aes
theorem back_sub (x : UInt8) : back (sub x) = x := all8 (P := fun x => back (sub x) = x) (by decide +kernel) x
theorem sub_back (x : UInt8) : sub (back x) = x := all8 (P := fun x => sub (back x) = x) (by decide +kernel) x
theorem sub_inj {x y : UInt8} : sub x = sub y ↔ x = y := ⟨fun h => by rw [← back_sub x, h, back_sub], fun h => by rw [h]⟩
theorem ext16 {a b : List UInt8} (ha : a.length = 16) (hb : b.length = 16) (h : ∀ j, j < 16 → a.getD j 0 = b.getD j 0) : a = b := by
  apply List.ext_getElem (by omega)
  intro j h1 h2
  have := h j (by omega)
  simpa [List.getD, h1, h2] using this
theorem map_at (f : Nat → UInt8) {j : Nat} (h : j < 16) : ((List.range 16).map f).getD j 0 = f j := by simp [List.getD, h]
theorem xor_xor {l k : List UInt8} (hl : l.length = 16) : xorB (xorB l k) k = l := by
  refine ext16 (by simp) hl fun j hj => ?_
  rw [xorB, map_at _ hj, xorB, map_at _ hj, UInt8.xor_assoc, UInt8.xor_self, UInt8.xor_zero]
theorem backB_subB {l : List UInt8} (hl : l.length = 16) : backB (subB l) = l := by
  refine ext16 (by simp) hl fun j hj => ?_
  rw [backB, map_at _ hj, subB, map_at _ hj, back_sub]
theorem subB_backB {l : List UInt8} (hl : l.length = 16) : subB (backB l) = l := by
  refine ext16 (by simp) hl fun j hj => ?_
  rw [subB, map_at _ hj, backB, map_at _ hj, sub_back]
theorem turn31 {l : List UInt8} (hl : l.length = 16) : turnB 3 (turnB 1 l) = l := by
  refine ext16 (by simp) hl fun j hj => ?_
  rw [turnB, map_at _ hj, turnB, map_at _ (Nat.mod_lt _ (by decide))]
  congr 1; omega
theorem turn13 {l : List UInt8} (hl : l.length = 16) : turnB 1 (turnB 3 l) = l := by
  refine ext16 (by simp) hl fun j hj => ?_
  rw [turnB, map_at _ hj, turnB, map_at _ (Nat.mod_lt _ (by decide))]
  congr 1; omega

/-! ### the mixing of a column -/
def col (a b c d x y z u : UInt8) : UInt8 := (((0 ^^^ times x a) ^^^ times y b) ^^^ times z c) ^^^ times u d
theorem col_lin (a b c d p q r s p' q' r' s' x y z u : UInt8) :
    col a b c d (col p q r s x y z u) (col p q r s y z u x) (col p q r s z u x y) (col p q r s u x y z) =
      ((times x (times p a ^^^ times s b ^^^ times r c ^^^ times q d) ^^^ times y (times q a ^^^ times p b ^^^ times s c ^^^ times r d)) ^^^
      times z (times r a ^^^ times q b ^^^ times p c ^^^ times s d)) ^^^ times u (times s a ^^^ times r b ^^^ times q c ^^^ times p d) := by
  simp only [col, UInt8.zero_xor, times_xorl, times_xorr, times_assoc]
  ac_rfl
theorem times_z (x : UInt8) : times x 0 = 0 := times_zero_r x
theorem unmix (x y z u : UInt8) : col 14 11 13 9 (col 2 3 1 1 x y z u) (col 2 3 1 1 y z u x) (col 2 3 1 1 z u x y) (col 2 3 1 1 u x y z) = x := by
  rw [col_lin 14 11 13 9 2 3 1 1 2 3 1 1 x y z u]
  rw [show times 2 14 ^^^ times 1 11 ^^^ times 1 13 ^^^ times 3 9 = 1 by decide +kernel, show times 3 14 ^^^ times 2 11 ^^^ times 1 13 ^^^ times 1 9 = 0 by decide +kernel,
    show times 1 14 ^^^ times 3 11 ^^^ times 2 13 ^^^ times 1 9 = 0 by decide +kernel, show times 1 14 ^^^ times 1 11 ^^^ times 3 13 ^^^ times 2 9 = 0 by decide +kernel]
  simp only [times_z, times_one, UInt8.xor_zero]
theorem remix (x y z u : UInt8) : col 2 3 1 1 (col 14 11 13 9 x y z u) (col 14 11 13 9 y z u x) (col 14 11 13 9 z u x y) (col 14 11 13 9 u x y z) = x := by
  rw [col_lin 2 3 1 1 14 11 13 9 2 3 1 1 x y z u]
  rw [show times 14 2 ^^^ times 9 3 ^^^ times 13 1 ^^^ times 11 1 = 1 by decide +kernel, show times 11 2 ^^^ times 14 3 ^^^ times 9 1 ^^^ times 13 1 = 0 by decide +kernel,
    show times 13 2 ^^^ times 11 3 ^^^ times 14 1 ^^^ times 9 1 = 0 by decide +kernel, show times 9 2 ^^^ times 13 3 ^^^ times 11 1 ^^^ times 14 1 = 0 by decide +kernel]
  simp only [times_z, times_one, UInt8.xor_zero]
theorem mix_at (l : List UInt8) (a b c d : UInt8) {i : Nat} (hi : i < 16) : (mixB l [a, b, c, d]).getD i 0 = col a b c d (l.getD (4 * (i / 4) + i % 4) 0) (l.getD (4 * (i / 4) + (i + 1) % 4) 0) (l.getD (4 * (i / 4) + (i + 2) % 4) 0) (l.getD (4 * (i / 4) + (i + 3) % 4) 0) := by
  rw [mixB, map_at _ hi]
  have e : ∀ k, k < 4 → (i ^^^ (i &&& 3)) ||| ((i + k) &&& 3) = 4 * (i / 4) + (i + k) % 4 := by
    have : ∀ i : Fin 16, ∀ k : Fin 4, (i.val ^^^ (i.val &&& 3)) ||| ((i.val + k.val) &&& 3) = 4 * (i.val / 4) + (i.val + k.val) % 4 := by decide
    intro k hk
    exact this ⟨i, hi⟩ ⟨k, hk⟩
  simp only [mixAcc, e 0 (by decide), e 1 (by decide), e 2 (by decide), e 3 (by decide)]
  rfl
theorem mix_inv (m m' : UInt8 × UInt8 × UInt8 × UInt8) (h : ∀ x y z u, col m.1 m.2.1 m.2.2.1 m.2.2.2 (col m'.1 m'.2.1 m'.2.2.1 m'.2.2.2 x y z u) (col m'.1 m'.2.1 m'.2.2.1 m'.2.2.2 y z u x) (col m'.1 m'.2.1 m'.2.2.1 m'.2.2.2 z u x y) (col m'.1 m'.2.1 m'.2.2.1 m'.2.2.2 u x y z) = x)
    {l : List UInt8} (hl : l.length = 16) : mixB (mixB l [m'.1, m'.2.1, m'.2.2.1, m'.2.2.2]) [m.1, m.2.1, m.2.2.1, m.2.2.2] = l := by
  refine ext16 (by simp) hl fun i hi => ?_
  rw [mix_at _ _ _ _ _ hi, mix_at _ _ _ _ _ (show 4 * (i / 4) + i % 4 < 16 by omega), mix_at _ _ _ _ _ (show 4 * (i / 4) + (i + 1) % 4 < 16 by omega), mix_at _ _ _ _ _ (show 4 * (i / 4) + (i + 2) % 4 < 16 by omega), mix_at _ _ _ _ _ (show 4 * (i / 4) + (i + 3) % 4 < 16 by omega)]
  have q : ∀ k, (4 * (i / 4) + (i + k) % 4) / 4 = i / 4 := fun k => by omega
  have q0 : (4 * (i / 4) + i % 4) / 4 = i / 4 := by omega
  have r : ∀ k j, (4 * (i / 4) + (i + k) % 4 + j) % 4 = (i + (k + j) % 4) % 4 := fun k j => by omega
  have rz : ∀ k, (4 * (i / 4) + (i + k) % 4) % 4 = (i + k % 4) % 4 := fun k => by omega
  have r0 : ∀ j, (4 * (i / 4) + i % 4 + j) % 4 = (i + j % 4) % 4 := fun j => by omega
  have r00 : (4 * (i / 4) + i % 4) % 4 = (i + 0) % 4 := by omega
  simp only [q, q0, r, rz, r0, r00, Nat.reduceAdd, Nat.reduceMod, h]
  congr 1; omega
theorem mix14 {l : List UInt8} (hl : l.length = 16) : mixB (mixB l [2, 3, 1, 1]) [14, 11, 13, 9] = l := mix_inv (14, 11, 13, 9) (2, 3, 1, 1) unmix hl
theorem mix2 {l : List UInt8} (hl : l.length = 16) : mixB (mixB l [14, 11, 13, 9]) [2, 3, 1, 1] = l := mix_inv (2, 3, 1, 1) (14, 11, 13, 9) remix hl

/-! ### rounds -/
theorem dec_encRound (key : List UInt8) (r : Nat) {l : List UInt8} (hl : l.length = 16) : decStep key r (encRound key r l) = l := by
  by_cases h : r < 10
  · rw [decStep, encRound, if_pos h, if_pos h, xor_xor (by simp), mix14 (by simp), turn31 (by simp), backB_subB hl]
  · rw [decStep, encRound, if_neg h, if_neg h, xor_xor (by simp), turn31 (by simp), backB_subB hl]
theorem enc_decStep (key : List UInt8) (r : Nat) {l : List UInt8} (hl : l.length = 16) : encRound key r (decStep key r l) = l := by
  by_cases h : r < 10
  · rw [decStep, encRound, if_pos h, if_pos h, subB_backB (by simp), turn13 (by simp), mix2 (by simp), xor_xor hl]
  · rw [decStep, encRound, if_neg h, if_neg h, subB_backB (by simp), turn13 (by simp), xor_xor hl]
theorem decAt_enc (key l : List UInt8) : ∀ n, n ≤ 10 → decAt key (enc key l) n = encAt key l (10 - n)
  | 0, _ => rfl
  | n + 1, h => by
    rw [decAt, decAt_enc key l n (by omega)]
    obtain ⟨m, hm⟩ : ∃ m, 10 - n = m + 1 := ⟨9 - n, by omega⟩
    rw [hm, encAt, dec_encRound key _ (encAt_length ..)]
    congr 1; omega
theorem dec_enc (key : List UInt8) {l : List UInt8} (hl : l.length = 16) : dec key (enc key l) = l := by
  rw [dec, decAt_enc key l 10 (by omega)]
  exact xor_xor hl
theorem encAt_dec (key : List UInt8) {l : List UInt8} (hl : l.length = 16) : ∀ r, r ≤ 10 → encAt key (dec key l) r = decAt key l (10 - r)
  | 0, _ => by rw [encAt, dec, xor_xor (decAt_length key hl _)]
  | r + 1, h => by
    rw [encAt, encAt_dec key hl r (by omega)]
    obtain ⟨m, hm⟩ : ∃ m, 10 - r = m + 1 := ⟨9 - r, by omega⟩
    have e1 : 10 - (r + 1) = m := by omega
    have e2 : r + 1 = 10 - m := by omega
    rw [hm, e1, decAt, e2, enc_decStep key _ (decAt_length key hl _)]
theorem enc_dec (key : List UInt8) {l : List UInt8} (hl : l.length = 16) : enc key (dec key l) = l := by
  rw [enc, encAt_dec key hl 10 (by omega)]
  rfl
theorem enc_inj (key : List UInt8) {a b : List UInt8} (ha : a.length = 16) (hb : b.length = 16) : enc key a = enc key b ↔ a = b :=
  ⟨fun h => by rw [← dec_enc key ha, h, dec_enc key hb], fun h => by rw [h]⟩
end Go.Aes
