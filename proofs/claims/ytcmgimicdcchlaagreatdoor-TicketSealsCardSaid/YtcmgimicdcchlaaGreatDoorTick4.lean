/- Lemmas on the way to the statement; no condition of its own. -/
import Derived.Test.YtcmgimicdcchlaaGreatDoorQP
import Derived.Test.YtcmgimicdcchlaaGreatDoorTick3
set_option linter.unusedVariables false
namespace Go.Tick
def okAuth (c : List UInt8) (t : Int) : Prop := okName c ∧ okTime t
instance (l : List UInt8) : Decidable (okName l) := by unfold okName; infer_instance
instance (n : Int) : Decidable (okTime n) := by unfold okTime; infer_instance
instance (c : List UInt8) (t : Int) : Decidable (okAuth c t) := by unfold okAuth; infer_instance
def authL (c : List UInt8) (t z : Int) : List (List UInt8) := [c, be8 (bits t), be8 (bits z)]
def ansL (t z : Int) : List (List UInt8) := [be8 (bits t), be8 (bits z)]
def sealA (key conf c : List UInt8) (t z : Int) : List UInt8 × Int := if okAuth c t then Seal.sealR key 11 conf (enc 0 (authL c t z)) else ([], 200)
def answerA (key conf c : List UInt8) (t z : Int) : List UInt8 × Int := if okAuth c t then Seal.sealR key 12 conf (enc 0 (ansL t z)) else ([], 200)
theorem auth_le {c : List UInt8} {t z : Int} (h : okName c) : (enc 0 (authL c t z)).length ≤ 4096 := by
  rw [enc_length]; simp only [authL, List.map_cons, List.map_nil, List.sum_cons, List.sum_nil, be8_length]; have := h.2; omega
theorem ans_le (t z : Int) : (enc 0 (ansL t z)).length ≤ 4096 := by
  rw [enc_length]; simp only [ansL, List.map_cons, List.map_nil, List.sum_cons, List.sum_nil, be8_length]; omega
theorem auth_iff (c : List UInt8) (t : Int) : ((∀ j, j < 1 → okName ([c].getD j [])) ∧ ∀ j, j < 1 → okTime ([t].getD j 0)) ↔ okAuth c t :=
  ⟨fun h => ⟨h.1 0 (by decide), h.2 0 (by decide)⟩, fun h => ⟨fun j hj => by
    rcases (by omega : j = 0) with rfl
    exact h.1, fun j hj => by
    rcases (by omega : j = 0) with rfl
    exact h.2⟩⟩
end Go.Tick
namespace Go.Tick
theorem ofNat_mod (n : Nat) : UInt8.ofNat (n % 256) = UInt8.ofNat n := by
  apply UInt8.toNat_inj.1
  rw [UInt8.toNat_ofNat', UInt8.toNat_ofNat']
  omega
theorem back_step (m : Nat) {k : Nat} (hk : k < 8) : (List.replicate (8 - k) (0 : UInt8) ++ (be8 m).drop (8 - k)).set (7 - k) (UInt8.ofNat (m / 256 ^ k % 256)) = List.replicate (8 - (k + 1)) 0 ++ (be8 m).drop (8 - (k + 1)) := by
  have e1 : (be8 m).drop (7 - k) = (be8 m).getD (7 - k) 0 :: (be8 m).drop (7 - k + 1) := by
    rw [List.drop_eq_getElem_cons (by rw [be8_length]; omega), List.getD_eq_getElem?_getD, List.getElem?_eq_getElem (by rw [be8_length]; omega)]; first | rfl | skip
  have e2 : 8 - k = 7 - k + 1 := by omega
  have e3 : 8 - (k + 1) = 7 - k := by omega
  have e4 : (be8 m).getD (7 - k) 0 = UInt8.ofNat (m / 256 ^ k % 256) := by
    rw [be8_at m (by omega), ofNat_mod, show 56 - 8 * (7 - k) = 8 * k by omega, Nat.pow_mul]
  rw [e2, e3, e1, e4, List.replicate_succ', List.append_assoc, List.set_append, if_neg (by simp)]
  simp
theorem back_all (m : Nat) : List.replicate (8 - 8) (0 : UInt8) ++ (be8 m).drop (8 - 8) = be8 m := by simp
theorem back_zero (m : Nat) : List.replicate 8 (0 : UInt8) = List.replicate (8 - 0) (0 : UInt8) ++ (be8 m).drop (8 - 0) := by
  rw [List.drop_of_length_le (by rw [be8_length]; omega)]; rfl
theorem back_len (m k : Nat) (hk : k ≤ 8) : (List.replicate (8 - k) (0 : UInt8) ++ (be8 m).drop (8 - k)).length = 8 := by simp <;> omega
end Go.Tick
