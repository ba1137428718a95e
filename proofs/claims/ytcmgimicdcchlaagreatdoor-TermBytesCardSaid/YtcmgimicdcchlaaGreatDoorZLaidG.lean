/- Lemmas on the way to the statement; no condition of its own. -/
import Derived.Test.YtcmgimicdcchlaaGreatDoorRows
import Derived.Lib.LaidTab
import Derived.Lib.LaidU8
import Derived.MakeChecks
import Derived.Test.YtcmgimicdcchlaaGreatDoorQE1
import Derived.Test.YtcmgimicdcchlaaGreatDoorQS
set_option linter.unusedVariables false
namespace Go.Proofs.YtcmgimicdcchlaaGreatDoor
open Go.Proofs.Tryz
open Go Go.E
theorem cellsA20 : Tryz.prog.globalNamed "internal/strconv.uint64pow10" = some 2 := by kernel_rfl
theorem cellsB20 : Tryz.prog.globalNamed "seneschal/sha.constants" = some 1 := by kernel_rfl
theorem var_heap {P : Program} {W : World} {nm : String} {g : Nat} {cs : Array Value} (hg : P.globalNamed nm = some g) (h : W.var? P nm = some cs) : ∃ T fr, PH.all W g = some (.cells cs T fr) := by
  simp only [World.var?, hg, Option.bind_some] at h
  unfold PH.all
  cases hb : W.heap[g]? with
  | none => rw [hb] at h; cases h
  | some o =>
    rw [hb] at h
    cases o with
    | cells c T fr => cases h; exact ⟨T, fr, rfl⟩
    | _ => cases h
theorem gl_of {W : World} {l : List (String × DataW Unit)} (h : laidMet Tryz.prog l W) (h1 : ("internal/strconv.uint64pow10", (Rows.laid_internal_strconv_uint64pow10 : DataW Unit)) ∈ l) (h2 : ("seneschal/sha.constants", (Rows.laid_seneschal_sha_constants : DataW Unit)) ∈ l) : GL (PH.all W) := by
  obtain ⟨g, t, cs, fuel, p, a1, a2, a3, a4⟩ := Lib.laidMet.reads h h1
  obtain ⟨g', t', cs', fuel', p', b1, b2, b3, b4⟩ := Lib.laidMet.reads h h2
  obtain rfl := Option.some.inj (cellsA20.symm.trans a1)
  obtain rfl := Option.some.inj (cellsB20.symm.trans b1)
  have ta : (Tryz.prog.globals[2]?).map (·.type) = some 254 := by kernel_rfl
  have tb : (Tryz.prog.globals[1]?).map (·.type) = some 244 := by kernel_rfl
  obtain rfl := Option.some.inj (ta.symm.trans a2)
  obtain rfl := Option.some.inj (tb.symm.trans b2)
  have ea := Lib.cells_of_tab (k := .u64) (zs := Lib.pow10Tab) underlying254 underlying124 (by kernel_rfl) (by kernel_rfl) (show DataW.trod _ _ _ _ _ _ _ _ _ = some (Lib.tabData .u64 Lib.pow10Tab, p) from a4)
  have eb := Lib.cells_of_tab (k := .u32) (zs := Sha.consts.map fun x => (x.toNat : Int)) underlying244 underlying223 (by kernel_rfl) (by kernel_rfl) (show DataW.trod _ _ _ _ _ _ _ _ _ = some (Lib.tabData .u32 (Sha.consts.map fun x => (x.toNat : Int)), p') from b4)
  obtain ⟨T, fr, hA⟩ := var_heap cellsA20 a3
  obtain ⟨T', fr', hB⟩ := var_heap cellsB20 b3
  refine ⟨⟨T', fr', ?_⟩, T, fr, ?_⟩
  · rw [hB]
    have : cs' = ws32 Sha.consts := by
      apply Array.toList_inj.1
      rw [eb, ws32, List.map_map]
      rfl
    rw [this]
  · rw [hA]
    have : cs = (Lib.pow10Tab.map fun z => Value.int .u64 z).toArray := by
      apply Array.toList_inj.1
      rw [ea]
    rw [this]
theorem gl_laid {W : World} (h : laidMetH Tryz.prog Rows.ticketJudgesRow.laid W) : GL (PH.all W) := by
  have h' : laidMet Tryz.prog [("math/bits.deBruijn32tab", Rows.laid_math_bits_deBruijn32tab), ("math/bits.deBruijn64tab", Rows.laid_math_bits_deBruijn64tab), ("internal/strconv.uint64pow10", Rows.laid_internal_strconv_uint64pow10), ("seneschal/sha.constants", Rows.laid_seneschal_sha_constants)] W ∧ handlesMet Tryz.prog [("errors.errorType", Rows.laid_errors_errorType)] W := h
  exact gl_of h'.1 (.tail _ (.tail _ (.head _))) (.tail _ (.tail _ (.tail _ (.head _))))
end Go.Proofs.YtcmgimicdcchlaaGreatDoor
