/- Own text of this seat (Tick4): lemmas on the way to the statement; no condition of its own. -/
import Derived.Test.YtcmgimicdcchlaaGreatDoorQP
import Derived.Test.YtcmgimicdcchlaaGreatDoorTick3
/- Chapter 20: authenticators and answers as plain functions. -/
set_option linter.unusedVariables false
namespace Go.Tick
def okAuth (c : List UInt8) (t : Int) : Prop := okName c ∧ okTime t
instance (l : List UInt8) : Decidable (okName l) := by unfold okName; infer_instance
instance (n : Int) : Decidable (okTime n) := by unfold okTime; infer_instance
instance (c : List UInt8) (t : Int) : Decidable (okAuth c t) := by unfold okAuth; infer_instance
def authL (c : List UInt8) (t z : Int) : List (List UInt8) := [c, be8 (bits t), be8 (bits z)]
def ansL (t z : Int) : List (List UInt8) := [be8 (bits t), be8 (bits z)]
def sealA (key conf c : List UInt8) (t z : Int) : List UInt8 × Int := if okAuth c t then Seal.sealR key 11 conf (enc 0 (authL c t z)) else ([], 200)
def answerA (key conf c : List UInt8) (t z : Int) : List UInt8 × Int := if okAuth c t then Seal.sealR key 12 conf (enc 0 (ansL t z)) else ([], 200)
theorem auth_le {c : List UInt8} {t z : Int} (h : okName c) : (enc 0 (authL c t z)).length ≤ 4096 := by
  rw [enc_length]; simp only [authL, List.map_cons, List.map_nil, List.sum_cons, List.sum_nil, be8_length]; have := h.2; omega
theorem ans_le (t z : Int) : (enc 0 (ansL t z)).length ≤ 4096 := by
  rw [enc_length]; simp only [ansL, List.map_cons, List.map_nil, List.sum_cons, List.sum_nil, be8_length]; omega
theorem sgn_val_bits {n : Int} (h : inI n) : sgn (val (be8 (bits n))) = n := by rw [val_be8 (bits_lt n), sgn_bits h]
theorem auth_iff (c : List UInt8) (t : Int) : ((∀ j, j < 1 → okName ([c].getD j [])) ∧ ∀ j, j < 1 → okTime ([t].getD j 0)) ↔ okAuth c t :=
  ⟨fun h => ⟨h.1 0 (by decide), h.2 0 (by decide)⟩, fun h => ⟨fun j hj => by
    rcases (by omega : j = 0) with rfl
    exact h.1, fun j hj => by
    rcases (by omega : j = 0) with rfl
    exact h.2⟩⟩
end Go.Tick
