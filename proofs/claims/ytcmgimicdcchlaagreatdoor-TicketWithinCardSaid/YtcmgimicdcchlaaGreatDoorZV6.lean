/- Own text of this seat (ZV6): lemmas on the way to the statement; no condition of its own. -/
import Derived.Test.YtcmgimicdcchlaaGreatDoorQV
set_option linter.unusedVariables false
set_option maxRecDepth 20000
namespace Go.Proofs.YtcmgimicdcchlaaGreatDoor
open Go Go.E
theorem law_judges (c s ac svc : List UInt8) (kv : Value) (f u e fl at_ no now k : Int) (w0 : World) (M : PH) (hM : On M w0) (hgl : GL M) (hf : -9223372036854775808 ≤ f ∧ f ≤ 9223372036854775807) (hu : -9223372036854775808 ≤ u ∧ u ≤ 9223372036854775807) (hat_ : -9223372036854775808 ≤ at_ ∧ at_ ≤ 9223372036854775807) (hnow : -9223372036854775808 ≤ now ∧ now ≤ 9223372036854775807) (hk : -9223372036854775808 ≤ k ∧ k ≤ 9223372036854775807) : Ok Tryz.prog 7 #[.agg #[Go.E.str c, Go.E.str s, kv, .int .i64 f, .int .i64 u, .int .i64 e, .int .i64 fl], .agg #[Go.E.str ac, .int .i64 at_, .int .i64 no], Go.E.str svc, .int .i64 now, .int .i64 k] w0 M (fun M' r => M = M' ∧ r = .bool true) := by
  have hS := hM.st
  refine enterB (l := [.agg #[Go.E.str c, Go.E.str s, kv, .int .i64 f, .int .i64 u, .int .i64 e, .int .i64 fl], .agg #[Go.E.str ac, .int .i64 at_, .int .i64 no], Go.E.str svc, .int .i64 now, .int .i64 k]) 27 Tryz.func7 rfl Tryz.ntmps7 rfl ?_
  refine CW.seq ?_
  refine CW.region ?_
  refine WL.step rfl (Stp.boxA rfl rfl rfl rfl hS ?_)
  intro b5 w hb5 hS hkp hnw
  refine WL.step rfl (Stp.boxA rfl rfl rfl rfl hS ?_)
  intro b6 w hb6 hS hkp hnw
  refine WL.step rfl (Stp.res rfl rfl (Res.assign rfl rfl) ?_)
  refine WL.nil (Thn_n ?_)
  refine CW.seq ?_
  obtain ⟨M1, hG1, hx5, hx6, hS⟩ : ∃ M1, Grow w0.heap.size M M1 ∧ M1 b5 = some (.cells #[Go.E.str c, Go.E.str s, kv, .int .i64 f, .int .i64 u, .int .i64 e, .int .i64 fl] 57 (0, 0)) ∧ M1 b6 = some (.cells #[Go.E.str ac, .int .i64 at_, .int .i64 no] 67 (0, 0)) ∧ St w0 w M1 [] := by
    have hF := hS.freezeG (i := 0) rfl hb6
    have hF2 := hF.1.freezeG (i := 0) rfl hb5
    exact ⟨_, hF.2.trans hF2.2, PH.add_self _ _ _, hF2.2.1 _ _ (PH.add_self _ _ _), hF2.1⟩
  have hS := hS.drew
  have hK0 := hS.on
  refine CW.held (fun w => On M1 w) mixed ?_
  refine AL.take 0 rfl (by kernel_rfl) (by kernel_rfl) (by kernel_rfl) rfl rfl rfl hK0 (fun w hK => Res.loadAll (cs := #[Go.E.str c, Go.E.str s, kv, .int .i64 f, .int .i64 u, .int .i64 e, .int .i64 fl]) rfl rfl Tryz.underlying57 rfl (sz57) (hK _ _ hx5)) ?_
  refine AL.take 1 rfl (by kernel_rfl) (by kernel_rfl) (by kernel_rfl) rfl rfl rfl hK0 (fun w hK => Res.loadAll (cs := #[Go.E.str ac, .int .i64 at_, .int .i64 no]) rfl rfl Tryz.underlying67 rfl (sz67) (hK _ _ hx6)) ?_
  refine AL.take 2 rfl (by kernel_rfl) (by kernel_rfl) (by kernel_rfl) rfl rfl rfl hK0 (fun w hK => Res.move rfl rfl) ?_
  refine AL.take 3 rfl (by kernel_rfl) (by kernel_rfl) (by kernel_rfl) rfl rfl rfl hK0 (fun w hK => Res.move rfl rfl) ?_
  refine AL.take 4 rfl (by kernel_rfl) (by kernel_rfl) (by kernel_rfl) rfl rfl rfl hK0 (fun w hK => Res.move rfl rfl) ?_
  refine AL.take 6 rfl (by kernel_rfl) (by kernel_rfl) (by kernel_rfl) rfl rfl rfl hK0 (fun w hK => Res.loadAll (cs := #[Go.E.str c, Go.E.str s, kv, .int .i64 f, .int .i64 u, .int .i64 e, .int .i64 fl]) rfl rfl Tryz.underlying57 rfl (sz57) (hK _ _ hx5)) ?_
  refine AL.take 7 rfl (by kernel_rfl) (by kernel_rfl) (by kernel_rfl) rfl rfl rfl hK0 (fun w hK => Res.loadAll (cs := #[Go.E.str ac, .int .i64 at_, .int .i64 no]) rfl rfl Tryz.underlying67 rfl (sz67) (hK _ _ hx6)) ?_
  refine AL.take 8 rfl (by kernel_rfl) (by kernel_rfl) (by kernel_rfl) rfl rfl rfl hK0 (fun w hK => Res.move rfl rfl) ?_
  refine AL.take 9 rfl (by kernel_rfl) (by kernel_rfl) (by kernel_rfl) rfl rfl rfl hK0 (fun w hK => Res.move rfl rfl) ?_
  refine AL.take 10 rfl (by kernel_rfl) (by kernel_rfl) (by kernel_rfl) rfl rfl rfl hK0 (fun w hK => Res.move rfl rfl) ?_
  refine AL.one 5 rfl (by kernel_rfl) rfl (Stp.callG (args := [_, _, _, _, _]) rfl rfl rfl cal40 rfl rfl hS (judge_ok c s ac svc kv f u e fl at_ no now k _ _ hS.on hf hu hat_ hnow hk) ?_)
  rintro _ w _ hS _ ⟨rfl, rfl⟩
  have hK0 := hS.on
  refine ⟨hK0, ?_⟩
  refine AL.one 11 rfl (by kernel_rfl) rfl (Stp.callG (args := [_, _, _, _, _]) rfl rfl rfl cal41 rfl rfl hS (rjudge_ok c s ac svc kv f u e fl at_ no now k _ _ hS.on hf hu hat_ hnow hk) ?_)
  rintro _ w _ hS _ ⟨rfl, rfl⟩
  have hK0 := hS.on
  refine ⟨hK0, ?_⟩
  refine AL.take 12 rfl (by kernel_rfl) (by kernel_rfl) (by kernel_rfl) rfl rfl rfl hK0 (fun w hK => Res.to (Res.eql rfl rfl rfl) rfl) ?_
  refine AL.take 13 rfl (by kernel_rfl) (by kernel_rfl) (by kernel_rfl) rfl rfl rfl hK0 (fun w hK => Res.move rfl rfl) ?_
  refine AL.oneG 14 13 true rfl (by kernel_rfl) rfl rfl rfl rfl (Stp.callG (args := []) rfl rfl rfl cal39 rfl rfl hS (works20_ok _ _ hS.on (hgl.mono hG1.1)) ?_)
  rintro _ w M2 hS hG2 rfl
  have hK0 : On M1 w := (hS.known hG2.1).on
  refine ⟨hK0, ?_⟩
  refine AL.take 15 rfl (by kernel_rfl) (by kernel_rfl) (by kernel_rfl) rfl rfl rfl hK0 (fun w hK => Res.pickT rfl rfl rfl) ?_
  refine AL.take 16 rfl (by kernel_rfl) (by kernel_rfl) (by kernel_rfl) rfl rfl rfl hK0 (fun w hK => Res.assign rfl rfl) ?_
  refine AL.done (by kernel_rfl) (Thn_n ?_)
  refine CW.ret ?_
  exact fq_tmp rfl rfl ⟨M, hS.known (hG1.trans hG2).1, PH.le.refl _, Fresh.refl _ _, rfl, rfl⟩
end Go.Proofs.YtcmgimicdcchlaaGreatDoor
