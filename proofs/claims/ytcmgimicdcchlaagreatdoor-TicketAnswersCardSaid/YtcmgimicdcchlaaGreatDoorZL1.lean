/- Own text of this seat (ZL1): lemmas on the way to the statement; no condition of its own. -/
import Derived.Test.YtcmgimicdcchlaaGreatDoorZL0
set_option linter.unusedVariables false
set_option maxRecDepth 20000
namespace Go.Proofs.YtcmgimicdcchlaaGreatDoor
open Go Go.E
theorem among_ok (x : Int) (n : Nat) (hn : 0 < n ∧ n ≤ 4611686018427387904) (w : World) : Calls Tryz.prog 42 #[.int .i64 x, .int .i64 (n : Int)] w fun e w' => ∃ v, e = .returned v ∧ v = .int .i64 ((Seal.amg x n : Nat) : Int) ∧ w' = w := by
  refine enter (l := [.int .i64 x, .int .i64 (n : Int)]) 13 Tryz.func42 rfl Tryz.ntmps42 rfl ?_
  refine CW.seq ?_
  refine CW.region ?_
  refine WL.step rfl (Stp.res rfl rfl (Res.assign rfl rfl) ?_)
  refine WL.nil (Thn_n ?_)
  refine CW.seq ?_
  refine CW.seq ?_
  refine CW.region ?_
  refine WL.step rfl (Stp.res rfl rfl (Res.move rfl rfl) ?_)
  refine WL.step rfl (Stp.res rfl rfl (Res.lss rfl rfl rfl) ?_)
  refine WL.nil (Thn_n ?_)
  refine CW.iteF rfl (by omega) ?_
  refine CW.skip (Thn_n ?_)
  refine CW.seq ?_
  refine CW.region ?_
  refine WL.step rfl (Stp.res rfl rfl (Res.move rfl rfl) ?_)
  refine WL.step rfl (Stp.res rfl rfl (Res.cast (Res.conv (k := .u64) rfl rfl Tryz.underlying3 Tryz.underlying124) (v' := .int .u64 (((x % 18446744073709551616).toNat : Nat) : Int)) (by congr 1; rw [uk64.wrapI]; omega)) ?_)
  refine WL.step rfl (Stp.res rfl rfl (Res.move rfl rfl) ?_)
  refine WL.step rfl (Stp.res rfl rfl (Res.convW (a := n) uk64 rfl rfl Tryz.underlying3 Tryz.underlying124 (by omega)) ?_)
  refine WL.step rfl (Stp.res rfl rfl (Res.remU (a := (x % 18446744073709551616).toNat) (b := n) rfl rfl rfl hn.1) ?_)
  refine WL.step rfl (Stp.res rfl rfl (Res.cast (Res.conv (k := .i64) rfl rfl Tryz.underlying124 Tryz.underlying3) (v' := .int .i64 ((Seal.amg x n : Nat) : Int)) (by congr 1; have := Seal.amg_lt x hn.1; rw [wrap_i64 (by unfold Seal.amg at this; omega), Seal.amg])) ?_)
  refine WL.step rfl (Stp.res rfl rfl (Res.assign rfl rfl) ?_)
  refine WL.nil (Thn_n ?_)
  refine CW.ret ?_
  exact fq_tmp rfl rfl ⟨rfl, rfl⟩
end Go.Proofs.YtcmgimicdcchlaaGreatDoor
