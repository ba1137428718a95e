/- From the row's reading of the arguments to the engine's. -/
import Derived.Test.YtanogodfnfkkbaaEng8
import Derived.WalkKit
import Derived.ProofKit
import Derived.OpenShut
import Derived.ShutString
import Derived.ChangeOld
import Derived.Below
set_option linter.unusedVariables false
set_option linter.unusedSimpArgs false
namespace Go.E
open Go Go.ChangeShapes Go.WideShapes
section
variable {H : Type} {enc : TypeId × Value → H} {P : Program} {W : World} {base b0 : Nat} {spare : Nat → Bool} {held : Bool} {t e : TypeId} {v : Value} {d : DataW H} {p : List MemPlace} {r : Reach}
theorem byte_of {a : Int} (h : (Lit.int .u8 a).wf = true) : ∃ x : UInt8, Value.int .u8 a = byte x := by
  have hb := bounds_u8 h
  refine ⟨UInt8.ofNat a.toNat, ?_⟩
  unfold byte
  congr 1
  simp
  omega
theorem i64_of {a : Int} (h : (Lit.int .i64 a).wf = true) : -9223372036854775808 ≤ a ∧ a ≤ 9223372036854775807 := bounds_i64 h
theorem row_arr {n : Nat} (ht : P.underlying t = some (.array n e)) (he : P.underlying e = some (.int .u8)) (hc : P.cellsOf e = 1) (hct : P.cellsOf t = n) (hv : Value.okWide P W r b0 t v) (hd : DataW.Trod enc P W base spare held t v d p) :
    ∃ l : List UInt8, l.length = n ∧ v = .agg (bs l) := by
  simp only [Value.okWide, ht] at hv
  obtain ⟨cs, rfl, hsz, _⟩ := hv
  obtain ⟨fuel, hf⟩ := hd
  obtain ⟨xs, m, _, hx, hlen, hxl, hel⟩ := DataW.trod_array ht hf
  have hcs : cs.size = P.cellsOf t := hsz
  simp only [Value.cells] at hlen hel
  have key : ∀ i, i < n → ∃ x : UInt8, cs[i]? = some (byte x) := fun i hi => by
    have h1 := hel i hi
    rw [hc, Nat.mul_one] at h1
    have hx1 : ∃ y, xs[i]? = some y := ⟨xs[i]'(by omega), by simp [hxl, hi]⟩
    obtain ⟨y, hy⟩ := hx1
    rw [hy] at h1
    obtain ⟨a, h2, _, hw⟩ := DataW.trod_int he h1
    obtain ⟨x, hbx⟩ := byte_of hw
    refine ⟨x, ?_⟩
    have h3 : (cs.toList.drop i).take 1 = [byte x] := by rw [← hbx]; exact h2
    have h4 : (cs.toList.drop i)[0]? = some (byte x) := by
      have : ((cs.toList.drop i).take 1)[0]? = some (byte x) := by rw [h3]; rfl
      simpa [List.getElem?_take] using this
    simpa using h4
  refine ⟨(List.range n).map fun i => if h : i < n then (key i h).choose else 0, by simp, ?_⟩
  congr 1
  apply Array.toList_inj.1
  apply List.ext_getElem?
  intro i
  by_cases hi : i < n
  · have h5 := (key i hi).choose_spec
    have h6 : cs.toList[i]? = some (byte (key i hi).choose) := by simpa using h5
    rw [h6]
    simp [bs, hi]
  · have h6 : cs.toList[i]? = none := by
      apply List.getElem?_eq_none
      simp; omega
    rw [h6]
    simp [bs, hi]
/-- a slice of bytes that came in, out of what the guide's 'open_ints' tells -/
def IsRow (w : World) (a : Option Addr) (len cap : Nat) (zs : List Int) : Prop :=
  (a = none ∧ len = 0 ∧ cap = 0 ∧ zs = []) ∨
  ∃ x, a = some x ∧ len ≤ cap ∧ cap ≤ maxLen ∧ zs.length = cap ∧ (∀ i, i < zs.length → w.cell? (x.add i) = some (.int .u8 (zs.getD i 0))) ∧ ∀ n ∈ zs, (Lit.int .u8 n).wf = true
theorem cell_spot {w : World} {b o : Nat} {s : Option Nat} {v : Value} (h : w.cell? ⟨b, o, s⟩ = some v) : s = none := by
  simp only [World.cell?] at h
  cases hb : w.heap[b]? with
  | none => simp [hb] at h
  | some ob =>
    cases ob with
    | cells c T fr =>
      rw [hb] at h
      cases s with
      | none => rfl
      | some _ => simp at h
    | _ => rw [hb] at h; cases h
theorem PH.cell_all {w : World} {b o : Nat} {v : Value} (h : w.cell? ⟨b, o, none⟩ = some v) : (PH.all w).cell b o = some v := by
  simp only [World.cell?] at h
  unfold PH.cell PH.all
  cases hb : w.heap[b]? with
  | none => simp [hb] at h
  | some ob =>
    cases ob with
    | cells c T fr => rw [hb] at h; simpa using h
    | _ => rw [hb] at h; cases h
theorem IsRow.bs {w : World} {a : Option Addr} {len cap : Nat} {zs : List Int} (h : IsRow w a len cap zs) : ∃ l : List UInt8, l.length = len ∧ Bs (PH.all w) (.slice a len cap) l := by
  rcases h with ⟨rfl, rfl, rfl, rfl⟩ | ⟨x, rfl, h1, h2, h3, h4, h5⟩
  · exact ⟨[], rfl, Bs.nil _⟩
  · have hlen : ((zs.take len).map fun n => UInt8.ofNat n.toNat).length = len := by simp; omega
    refine ⟨_, hlen, some x, cap, by rw [hlen], by omega, by unfold maxLen at h2; omega, (fun e => by cases e), fun j hj => ?_⟩
    obtain ⟨b, o, s⟩ := x
    have hj0 : j < zs.length := by omega
    have h0 := h4 0 (by omega)
    have hs : s = none := cell_spot (by simpa [Addr.add] using h0)
    subst hs
    refine ⟨b, o, rfl, ?_⟩
    have hc := h4 j hj0
    rw [addr_add] at hc
    rw [PH.cell_all hc]
    have hz : zs.getD j 0 = zs[j] := by simp [List.getD, hj0]
    have hw := bounds_u8 (h5 zs[j] (List.getElem_mem hj0))
    rw [hz]
    have hjl : j < len := by rw [hlen] at hj; exact hj
    have hd : ((zs.take len).map fun n => UInt8.ofNat n.toNat).getD j 0 = UInt8.ofNat zs[j].toNat := by
      simp [List.getD, hjl, hj0]
    rw [hd]
    unfold byte
    congr 2
    simp
    omega
end
end Go.E
