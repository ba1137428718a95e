/- Own text of this seat (Tick2): lemmas on the way to the statement; no condition of its own. -/
import Derived.Test.YtcmgimicdcchlaaGreatDoorTick
/- Chapter 20's judgement as a plain function. -/
set_option linter.unusedVariables false
namespace Go.Tick
def late (a b k : Int) : Prop := a < b ∧ max k 0 < b - a
instance (a b k : Int) : Decidable (late a b k) := by unfold late; infer_instance
def judge (c s : List UInt8) (f u : Int) (ac : List UInt8) (at_ : Int) (svc : List UInt8) (now k : Int) : Int :=
  if ¬ s = svc then 35 else if ¬ c = ac then 36 else if late at_ now k then 37 else if late now at_ k then 37 else if late now f k then 33 else if late u now k then 32 else 0
end Go.Tick
namespace Go.Tick
theorem judge_zero {c s ac svc : List UInt8} {f u at_ now k : Int} (hk : 0 ≤ k) : judge c s f u ac at_ svc now k = 0 ↔ s = svc ∧ c = ac ∧ at_ - now ≤ k ∧ now - at_ ≤ k ∧ now + k ≥ f ∧ now ≤ u + k := by
  have hl : ∀ a b, late a b k ↔ a < b ∧ k < b - a := fun a b => by
    have hm : max k 0 = k := by omega
    unfold late
    rw [hm]
  unfold judge
  by_cases h1 : s = svc
  · by_cases h2 : c = ac
    · rw [if_neg (by simpa using h1), if_neg (by simpa using h2)]
      have l1 := hl at_ now
      have l2 := hl now at_
      have l3 := hl now f
      have l4 := hl u now
      by_cases c1 : late at_ now k
      · rw [if_pos c1]
        exact ⟨fun h => absurd h (by decide), fun h => by have := l1.1 c1; omega⟩
      · rw [if_neg c1]
        by_cases c2 : late now at_ k
        · rw [if_pos c2]
          exact ⟨fun h => absurd h (by decide), fun h => by have := l2.1 c2; omega⟩
        · rw [if_neg c2]
          by_cases c3 : late now f k
          · rw [if_pos c3]
            exact ⟨fun h => absurd h (by decide), fun h => by have := l3.1 c3; omega⟩
          · rw [if_neg c3]
            by_cases c4 : late u now k
            · rw [if_pos c4]
              exact ⟨fun h => absurd h (by decide), fun h => by have := l4.1 c4; omega⟩
            · rw [if_neg c4]
              have n1 : ¬ (at_ < now ∧ k < now - at_) := fun h => c1 (l1.2 h)
              have n2 : ¬ (now < at_ ∧ k < at_ - now) := fun h => c2 (l2.2 h)
              have n3 : ¬ (now < f ∧ k < f - now) := fun h => c3 (l3.2 h)
              have n4 : ¬ (u < now ∧ k < now - u) := fun h => c4 (l4.2 h)
              exact ⟨fun _ => ⟨h1, h2, by omega, by omega, by omega, by omega⟩, fun _ => rfl⟩
    · rw [if_neg (by simpa using h1), if_pos h2]
      exact ⟨fun h => absurd h (by decide), fun h => absurd h.2.1 h2⟩
  · rw [if_pos h1]
    exact ⟨fun h => absurd h (by decide), fun h => absurd h.1 h1⟩
end Go.Tick
