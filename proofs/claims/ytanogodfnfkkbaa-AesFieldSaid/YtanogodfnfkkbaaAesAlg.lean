/- The field of AES: products are bilinear, in any order, and without divisors of nought; blocks are encrypted and decrypted to and fro. -/
import Derived.Test.YtanogodfnfkkbaaAesPure
set_option linter.unusedVariables false
set_option linter.unusedSimpArgs false
namespace Go.Aes
theorem all8 {P : UInt8 → Prop} (h : ∀ i : Fin 256, P (UInt8.ofNat i.val)) (x : UInt8) : P x := by
  have := h ⟨x.toNat, x.toNat_lt⟩
  simpa using this
theorem byte_split (x : UInt8) : x = (x &&& 1) ^^^ ((x &&& 2) ^^^ ((x &&& 4) ^^^ ((x &&& 8) ^^^ ((x &&& 16) ^^^ ((x &&& 32) ^^^ ((x &&& 64) ^^^ (x &&& 128))))))) :=
  all8 (P := fun x => x = (x &&& 1) ^^^ ((x &&& 2) ^^^ ((x &&& 4) ^^^ ((x &&& 8) ^^^ ((x &&& 16) ^^^ ((x &&& 32) ^^^ ((x &&& 64) ^^^ (x &&& 128)))))))) (by decide +kernel) x
theorem bit_or (x : UInt8) : (x &&& 1 = 0 ∨ x &&& 1 = 1) ∧ (x &&& 2 = 0 ∨ x &&& 2 = 2) ∧ (x &&& 4 = 0 ∨ x &&& 4 = 4) ∧ (x &&& 8 = 0 ∨ x &&& 8 = 8) ∧ (x &&& 16 = 0 ∨ x &&& 16 = 16) ∧ (x &&& 32 = 0 ∨ x &&& 32 = 32) ∧ (x &&& 64 = 0 ∨ x &&& 64 = 64) ∧ (x &&& 128 = 0 ∨ x &&& 128 = 128) :=
  all8 (P := fun x => (x &&& 1 = 0 ∨ x &&& 1 = 1) ∧ (x &&& 2 = 0 ∨ x &&& 2 = 2) ∧ (x &&& 4 = 0 ∨ x &&& 4 = 4) ∧ (x &&& 8 = 0 ∨ x &&& 8 = 8) ∧ (x &&& 16 = 0 ∨ x &&& 16 = 16) ∧ (x &&& 32 = 0 ∨ x &&& 32 = 32) ∧ (x &&& 64 = 0 ∨ x &&& 64 = 64) ∧ (x &&& 128 = 0 ∨ x &&& 128 = 128)) (by decide +kernel) x
theorem byte_ind {P : UInt8 → Prop} (h0 : P 0) (h1 : P 1) (h2 : P 2) (h4 : P 4) (h8 : P 8) (h16 : P 16) (h32 : P 32) (h64 : P 64) (h128 : P 128) (hx : ∀ a b, P a → P b → P (a ^^^ b)) (x : UInt8) : P x := by
  obtain ⟨a1, a2, a3, a4, a5, a6, a7, a8⟩ := bit_or x
  rw [byte_split x]
  refine hx _ _ ?_ (hx _ _ ?_ (hx _ _ ?_ (hx _ _ ?_ (hx _ _ ?_ (hx _ _ ?_ (hx _ _ ?_ ?_))))))
  · rcases a1 with h | h <;> rw [h] <;> assumption
  · rcases a2 with h | h <;> rw [h] <;> assumption
  · rcases a3 with h | h <;> rw [h] <;> assumption
  · rcases a4 with h | h <;> rw [h] <;> assumption
  · rcases a5 with h | h <;> rw [h] <;> assumption
  · rcases a6 with h | h <;> rw [h] <;> assumption
  · rcases a7 with h | h <;> rw [h] <;> assumption
  · rcases a8 with h | h <;> rw [h] <;> assumption

theorem xor_and8 (a b c : UInt8) : (a ^^^ b) &&& c = (a &&& c) ^^^ (b &&& c) := by
  apply UInt8.eq_of_toBitVec_eq
  simp only [UInt8.toBitVec_and, UInt8.toBitVec_xor]
  apply BitVec.eq_of_getElem_eq
  intro i hi
  simp only [BitVec.getElem_and, BitVec.getElem_xor]
  cases a.toBitVec[i] <;> cases b.toBitVec[i] <;> cases c.toBitVec[i] <;> rfl
theorem xor_swap (a b c d : UInt8) : (a ^^^ b) ^^^ (c ^^^ d) = (a ^^^ c) ^^^ (b ^^^ d) := by
  rw [UInt8.xor_assoc, UInt8.xor_assoc, ← UInt8.xor_assoc b c d, UInt8.xor_comm b c, UInt8.xor_assoc]
/-- half -/
def hf (b : UInt8) : UInt8 := UInt8.ofNat (b.toNat / 2 ^ 1)
theorem hf_shift (b : UInt8) : hf b = b >>> 1 := all8 (P := fun b => hf b = b >>> 1) (by decide +kernel) b
theorem hf_xor (a b : UInt8) : hf (a ^^^ b) = hf a ^^^ hf b := by
  rw [hf_shift, hf_shift, hf_shift, UInt8.shiftRight_xor]
theorem twice_alt (x : UInt8) : twice x = (x <<< 1) ^^^ (if x &&& 128 = 0 then 0 else 27) := all8 (P := fun x => twice x = (x <<< 1) ^^^ (if x &&& 128 = 0 then 0 else 27)) (by decide +kernel) x
theorem sw27 (A B : UInt8) : A ^^^ B ^^^ 27 = A ^^^ 27 ^^^ B := by rw [UInt8.xor_assoc, UInt8.xor_assoc, UInt8.xor_comm 27 B]
theorem twice_xor (a b : UInt8) : twice (a ^^^ b) = twice a ^^^ twice b := by
  rw [twice_alt, twice_alt, twice_alt, UInt8.shiftLeft_xor, xor_and8]
  obtain ⟨_, _, _, _, _, _, _, ha⟩ := bit_or a
  obtain ⟨_, _, _, _, _, _, _, hb⟩ := bit_or b
  rcases ha with ha | ha <;> rcases hb with hb | hb <;> simp [ha, hb, xor_swap] <;>
    first
      | exact sw27 _ _
      | (rw [UInt8.xor_assoc]; done)
      | skip
/-- a, or nought -/
theorem mulbit (a b : UInt8) : a * (b &&& 1) = if b &&& 1 = 0 then 0 else a := by
  obtain ⟨h, _⟩ := bit_or b
  rcases h with h | h <;> simp [h]
theorem mulbit_xor (a c b : UInt8) : (a ^^^ c) * (b &&& 1) = a * (b &&& 1) ^^^ c * (b &&& 1) := by
  obtain ⟨h, _⟩ := bit_or b
  rcases h with h | h <;> simp [h]
theorem mulbit_xor' (a b d : UInt8) : a * ((b ^^^ d) &&& 1) = a * (b &&& 1) ^^^ a * (d &&& 1) := by
  rw [xor_and8]
  obtain ⟨h, _⟩ := bit_or b
  obtain ⟨k, _⟩ := bit_or d
  rcases h with h | h <;> rcases k with k | k <;> simp [h, k]
theorem timesF_p (k : Nat) : ∀ (p a b : UInt8), timesF k p a b = p ^^^ timesF k 0 a b := by
  induction k with
  | zero => intro p a b; simp [timesF]
  | succ k ih =>
    intro p a b
    by_cases h : b = 0
    · subst h; simp [timesF]
    · rw [timesF_step _ _ _ _ h, timesF_step _ _ _ _ h, ih, ih (0 ^^^ _)]
      simp [UInt8.xor_assoc]
theorem timesF_succ (k : Nat) (a b : UInt8) : timesF (k + 1) 0 a b = a * (b &&& 1) ^^^ timesF k 0 (twice a) (hf b) := by
  by_cases h : b = 0
  · subst h
    have : hf 0 = 0 := by decide
    rw [timesF_zero, this, timesF_zero]; simp
  · rw [timesF_step _ _ _ _ h, timesF_p]; simp [hf]
theorem timesF_xorl (k : Nat) : ∀ (a c b : UInt8), timesF k 0 (a ^^^ c) b = timesF k 0 a b ^^^ timesF k 0 c b := by
  induction k with
  | zero => intro a c b; simp [timesF]
  | succ k ih => intro a c b; rw [timesF_succ, timesF_succ, timesF_succ, twice_xor, ih, mulbit_xor, xor_swap]
theorem timesF_xorr (k : Nat) : ∀ (a b d : UInt8), timesF k 0 a (b ^^^ d) = timesF k 0 a b ^^^ timesF k 0 a d := by
  induction k with
  | zero => intro a b d; simp [timesF]
  | succ k ih => intro a b d; rw [timesF_succ, timesF_succ, timesF_succ, hf_xor, ih, mulbit_xor', xor_swap]
theorem times_xorl (a c b : UInt8) : times (a ^^^ c) b = times a b ^^^ times c b := timesF_xorl 8 a c b
theorem times_xorr (a b d : UInt8) : times a (b ^^^ d) = times a b ^^^ times a d := timesF_xorr 8 a b d
theorem times_zero_l (b : UInt8) : times 0 b = 0 := by
  have := times_xorl 0 0 b
  simpa using this
theorem times_zero_r (a : UInt8) : times a 0 = 0 := by
  have := times_xorr a 0 0
  simpa using this
theorem times_comm (a b : UInt8) : times a b = times b a := by
  refine byte_ind (P := fun a => ∀ b, times a b = times b a) ?_ ?_ ?_ ?_ ?_ ?_ ?_ ?_ ?_ (fun x y hx hy b => by rw [times_xorl, times_xorr, hx, hy]) a b
  · intro b; rw [times_zero_l, times_zero_r]
  all_goals
    intro b
    refine byte_ind (P := fun b => times _ b = times b _) ?_ ?_ ?_ ?_ ?_ ?_ ?_ ?_ ?_ (fun x y hx hy => by rw [times_xorl, times_xorr, hx, hy]) b
    all_goals decide +kernel
theorem times_one (a : UInt8) : times a 1 = a := by
  refine byte_ind (P := fun a => times a 1 = a) ?_ ?_ ?_ ?_ ?_ ?_ ?_ ?_ ?_ (fun x y hx hy => by rw [times_xorl, hx, hy]) a
  all_goals decide +kernel
theorem times_two (a : UInt8) : times a 2 = twice a := by
  refine byte_ind (P := fun a => times a 2 = twice a) ?_ ?_ ?_ ?_ ?_ ?_ ?_ ?_ ?_ (fun x y hx hy => by rw [times_xorl, twice_xor, hx, hy]) a
  all_goals decide +kernel
theorem times_assoc (a b c : UInt8) : times (times a b) c = times a (times b c) := by
  refine byte_ind (P := fun a => ∀ b c, times (times a b) c = times a (times b c)) ?_ ?_ ?_ ?_ ?_ ?_ ?_ ?_ ?_ (fun x y hx hy b c => by rw [times_xorl, times_xorl, times_xorl, hx, hy]) a b c
  · intro b c; rw [times_zero_l, times_zero_l, times_zero_l]
  all_goals
    intro b c
    refine byte_ind (P := fun b => ∀ c, times (times _ b) c = times _ (times b c)) ?_ ?_ ?_ ?_ ?_ ?_ ?_ ?_ ?_ (fun x y hx hy c => by rw [times_xorr, times_xorl, times_xorl, times_xorr, hx, hy]) b c
    · intro c; rw [times_zero_r, times_zero_l, times_zero_r]
    all_goals
      intro c
      refine byte_ind (P := fun c => times (times _ _) c = times _ (times _ c)) ?_ ?_ ?_ ?_ ?_ ?_ ?_ ?_ ?_ (fun x y hx hy => by rw [times_xorr, times_xorr, times_xorr, hx, hy]) c
      all_goals decide +kernel
/-- the inverse -/
def inv (x : UInt8) : UInt8 :=
  let x2 := times x x
  let x4 := times x2 x2
  let x8 := times x4 x4
  let x16 := times x8 x8
  let x32 := times x16 x16
  let x64 := times x32 x32
  let x128 := times x64 x64
  times x128 (times x64 (times x32 (times x16 (times x8 (times x4 x2)))))
theorem times_inv (x : UInt8) (h : ¬ x = 0) : times x (inv x) = 1 :=
  all8 (P := fun x => ¬ x = 0 → times x (inv x) = 1) (by decide +kernel) x h
theorem times_eq_zero (a b : UInt8) : times a b = 0 ↔ a = 0 ∨ b = 0 := by
  constructor
  · intro h
    by_cases ha : a = 0
    · exact .inl ha
    · refine .inr ?_
      have : times (inv a) (times a b) = b := by
        rw [← times_assoc, times_comm (inv a) a, times_inv a ha, times_comm, times_one]
      rw [← this, h, times_zero_r]
  · rintro (rfl | rfl)
    · exact times_zero_l b
    · exact times_zero_r a
theorem inv_unique {x y : UInt8} (h : times x y = 1) : y = inv x := by
  have hx : ¬ x = 0 := fun e => by rw [e, times_zero_l] at h; cases h
  have : times (inv x) (times x y) = y := by rw [← times_assoc, times_comm (inv x) x, times_inv x hx, times_comm, times_one]
  rw [← this, h, times_one]

/-! ### the chapter's example -/
def wk : List UInt8 := (List.range 16).map fun j => UInt8.ofNat j
def wb : List UInt8 := (List.range 16).map fun j => UInt8.ofNat (17 * j)
theorem works_enc : enc wk wb = [105, 196, 224, 216, 106, 123, 4, 48, 216, 205, 183, 128, 112, 180, 197, 90] := by decide +kernel
theorem works_0 : (enc wk wb).getD 0 0 = 105 := by rw [works_enc]; rfl
theorem works_1 : (enc wk wb).getD 1 0 = 196 := by rw [works_enc]; rfl
theorem works_2 : (enc wk wb).getD 2 0 = 224 := by rw [works_enc]; rfl
theorem works_3 : (enc wk wb).getD 3 0 = 216 := by rw [works_enc]; rfl
end Go.Aes
