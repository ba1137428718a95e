/- Lemmas on the way to the statement; no condition of its own. -/
import Derived.ChangeMaps5
import Derived.Test.YtcmgimicdcchlaaGreatDoorQE1
set_option linter.unusedVariables false
set_option linter.unusedSimpArgs false
namespace Go.E
open Go Go.ChangeShapes Go.WideShapes
section
variable {H : Type} {enc : TypeId × Value → H} {P : Program} {W : World} {base b0 : Nat} {spare : Nat → Bool} {held : Bool} {t e : TypeId} {v : Value} {d : DataW H} {p : List MemPlace} {r : Reach}
theorem row_struct {n : Nat} {fs : Array Field} (ht : P.underlying t = some (.struct fs)) (hct : P.cellsOf t = n) (hv : Value.okWide P W r b0 t v) : ∃ cs, v = .agg cs ∧ cs.size = n := by
  simp only [Value.okWide, ht] at hv
  obtain ⟨cs, rfl, hsz, _⟩ := hv
  exact ⟨cs, rfl, by rw [← hct]; exact hsz⟩
theorem row_fieldI {fs : Array Field} {f : Field} {i : Nat} {k : IntKind} {cs : Array Value} (ht : P.underlying t = some (.struct fs)) (hf : fs[i]? = some f) (hu : P.underlying f.type = some (.int k)) (hc : P.cellsOf f.type = 1) (hd : DataW.Trod enc P W base spare held t (.agg cs) d p) :
    ∃ z, cs[f.offset]? = some (.int k z) ∧ (Lit.int k z).wf = true := by
  obtain ⟨fuel, hf0⟩ := hd
  obtain ⟨xs, m, _, hx, hlen, hxl, hel⟩ := DataW.trod_struct ht hf0
  have hi : i < fs.size := by
    obtain ⟨h, _⟩ := Array.getElem?_eq_some_iff.1 hf
    exact h
  have h1 := hel i f hf
  rw [hc] at h1
  obtain ⟨y, hy⟩ : ∃ y, xs[i]? = some y := ⟨xs[i]'(by omega), by simp [hxl, hi]⟩
  rw [hy] at h1
  obtain ⟨a, h2, _, hw⟩ := DataW.trod_int hu h1
  refine ⟨a, ?_, hw⟩
  simp only [Value.cells] at h2
  have h4 : ((cs.toList.drop f.offset).take 1)[0]? = some (Value.int k a) := by rw [h2]; rfl
  simpa [List.getElem?_take] using h4
end
end Go.E
namespace Go.E
open Go Go.ChangeShapes Go.WideShapes
section
variable {H : Type} {enc : TypeId × Value → H} {P : Program} {W : World} {base b0 : Nat} {spare : Nat → Bool} {held : Bool} {t e : TypeId} {v : Value} {d : DataW H} {p : List MemPlace} {r : Reach}
theorem str_of (s : ByteArray) : ∃ l : List UInt8, Value.string s = str l := ⟨s.data.toList, by simp [str]⟩
theorem row_fieldS {fs : Array Field} {f : Field} {i : Nat} {cs : Array Value} (ht : P.underlying t = some (.struct fs)) (hf : fs[i]? = some f) (hu : P.underlying f.type = some .string) (hc : P.cellsOf f.type = 1) (hd : DataW.Trod enc P W base spare held t (.agg cs) d p) :
    ∃ l, cs[f.offset]? = some (str l) := by
  obtain ⟨fuel, hf0⟩ := hd
  obtain ⟨xs, m, _, hx, hlen, hxl, hel⟩ := DataW.trod_struct ht hf0
  have hi : i < fs.size := by
    obtain ⟨h, _⟩ := Array.getElem?_eq_some_iff.1 hf
    exact h
  have h1 := hel i f hf
  rw [hc] at h1
  obtain ⟨y, hy⟩ : ∃ y, xs[i]? = some y := ⟨xs[i]'(by omega), by simp [hxl, hi]⟩
  rw [hy] at h1
  obtain ⟨a, h2, _, _⟩ := DataW.trod_string hu h1
  obtain ⟨l, hl⟩ := str_of a
  refine ⟨l, ?_⟩
  rw [hl] at h2
  simp only [Value.cells] at h2
  have h4 : ((cs.toList.drop f.offset).take 1)[0]? = some (str l) := by rw [h2]; rfl
  simpa [List.getElem?_take] using h4
theorem three' {cs : Array Value} {a b c : Value} (hn : cs.size = 3) (h0 : cs[0]? = some a) (h1 : cs[1]? = some b) (h2 : cs[2]? = some c) : cs = #[a, b, c] := by
  apply Array.ext_getElem?
  intro i
  rcases (by omega : i = 0 ∨ i = 1 ∨ i = 2 ∨ 3 ≤ i) with rfl | rfl | rfl | h
  · rw [h0]; rfl
  · rw [h1]; rfl
  · rw [h2]; rfl
  · rw [Array.getElem?_eq_none (by omega), Array.getElem?_eq_none (by simpa using h)]
end
end Go.E
