/- Lemmas on the way to the statement; no condition of its own. -/
import Derived.Test.YtcmgimicdcchlaaGreatDoorQE2
import Derived.Test.YtcmgimicdcchlaaGreatDoorZU2
set_option linter.unusedVariables false
set_option maxRecDepth 20000
namespace Go.Proofs.YtcmgimicdcchlaaGreatDoor
open Go.Proofs.Tryz
open Go Go.E
end Go.Proofs.YtcmgimicdcchlaaGreatDoor
set_option linter.unusedVariables false
set_option maxRecDepth 20000
namespace Go.Proofs.YtcmgimicdcchlaaGreatDoor
open Go.Proofs.Tryz
open Go Go.E
theorem late_yes (a b k : Int) (ha : -9223372036854775808 ≤ a ∧ a ≤ 9223372036854775807) (hb : -9223372036854775808 ≤ b ∧ b ≤ 9223372036854775807) (hk : -9223372036854775808 ≤ k ∧ k ≤ 9223372036854775807) (hlt : a < b) (w : World) : Calls Tryz.prog 85 #[.int .i64 a, .int .i64 b, .int .i64 k] w fun e w' => ∃ v, e = .returned v ∧ v = .bool (decide (Tick.late a b k)) ∧ w' = w := by
  refine enter (l := [.int .i64 a, .int .i64 b, .int .i64 k]) 21 func85 rfl ntmps85 rfl ?_
  refine CW.seq ?_
  refine CW.region ?_
  refine WL.step rfl (Stp.res rfl rfl (Res.assign rfl rfl) ?_)
  refine WL.nil (Thn_n ?_)
  refine CW.seq ?_
  refine CW.region ?_
  refine WL.step rfl (Stp.res rfl rfl (Res.move rfl rfl) ?_)
  refine WL.step rfl (Stp.res rfl rfl (Res.move rfl rfl) ?_)
  refine WL.step rfl (Stp.res rfl rfl (Res.to (Res.gtr rfl rfl rfl) hlt) ?_)
  refine WL.step rfl (Stp.res rfl rfl (Res.move rfl rfl) ?_)
  refine WL.stepG 3 true rfl rfl rfl rfl (Stp.res rfl rfl (Res.move rfl rfl) ?_)
  refine WL.stepG 3 true rfl rfl rfl rfl (Stp.res rfl rfl (Res.conv (k := .u64) rfl rfl underlying3 underlying124) ?_)
  refine WL.stepG 3 true rfl rfl rfl rfl (Stp.res rfl rfl (Res.move rfl rfl) ?_)
  refine WL.stepG 3 true rfl rfl rfl rfl (Stp.res rfl rfl (Res.conv (k := .u64) rfl rfl underlying3 underlying124) ?_)
  refine WL.stepG 3 true rfl rfl rfl rfl (Stp.res rfl rfl (Res.cast (Res.subW rfl rfl rfl) (v' := .int .u64 (b - a)) (by congr 1; rw [uk64.wrapI, uk64.wrapI, uk64.wrapI]; omega)) ?_)
  refine WL.stepG 3 true rfl rfl rfl rfl (Stp.res rfl rfl (Res.move rfl rfl) ?_)
  refine WL.stepG 3 true rfl rfl rfl rfl (Stp.res rfl rfl (Res.maxI rfl rfl rfl) ?_)
  refine WL.stepG 3 true rfl rfl rfl rfl (Stp.res rfl rfl (Res.cast (Res.conv (k := .u64) rfl rfl underlying3 underlying124) (v' := .int .u64 (max k 0)) (by congr 1; rw [uk64.wrapI]; split <;> omega)) ?_)
  refine WL.stepG 3 true rfl rfl rfl rfl (Stp.res rfl rfl (Res.gtr rfl rfl rfl) ?_)
  refine WL.step rfl (Stp.res rfl rfl (Res.pickT rfl rfl rfl) ?_)
  refine WL.step rfl (Stp.res rfl rfl (Res.assign rfl rfl) ?_)
  refine WL.nil (Thn_n ?_)
  refine CW.ret ?_
  exact fq_tmp rfl rfl ⟨by rw [show decide (Tick.late a b k) = decide (max k 0 < b - a) from decide_eq_decide.2 ⟨fun h => h.2, fun h => ⟨hlt, h⟩⟩], rfl⟩
theorem late_no (a b k : Int) (ha : -9223372036854775808 ≤ a ∧ a ≤ 9223372036854775807) (hb : -9223372036854775808 ≤ b ∧ b ≤ 9223372036854775807) (hk : -9223372036854775808 ≤ k ∧ k ≤ 9223372036854775807) (hlt : ¬ a < b) (w : World) : Calls Tryz.prog 85 #[.int .i64 a, .int .i64 b, .int .i64 k] w fun e w' => ∃ v, e = .returned v ∧ v = .bool (decide (Tick.late a b k)) ∧ w' = w := by
  refine enter (l := [.int .i64 a, .int .i64 b, .int .i64 k]) 21 func85 rfl ntmps85 rfl ?_
  refine CW.seq ?_
  refine CW.region ?_
  refine WL.step rfl (Stp.res rfl rfl (Res.assign rfl rfl) ?_)
  refine WL.nil (Thn_n ?_)
  refine CW.seq ?_
  refine CW.region ?_
  refine WL.step rfl (Stp.res rfl rfl (Res.move rfl rfl) ?_)
  refine WL.step rfl (Stp.res rfl rfl (Res.move rfl rfl) ?_)
  refine WL.step rfl (Stp.res rfl rfl (Res.toF (Res.gtr rfl rfl rfl) hlt) ?_)
  refine WL.step rfl (Stp.res rfl rfl (Res.move rfl rfl) ?_)
  refine WL.skipG 3 true rfl rfl rfl rfl rfl rfl ?_
  refine WL.skipG 3 true rfl rfl rfl rfl rfl rfl ?_
  refine WL.skipG 3 true rfl rfl rfl rfl rfl rfl ?_
  refine WL.skipG 3 true rfl rfl rfl rfl rfl rfl ?_
  refine WL.skipG 3 true rfl rfl rfl rfl rfl rfl ?_
  refine WL.skipG 3 true rfl rfl rfl rfl rfl rfl ?_
  refine WL.skipG 3 true rfl rfl rfl rfl rfl rfl ?_
  refine WL.skipG 3 true rfl rfl rfl rfl rfl rfl ?_
  refine WL.skipG 3 true rfl rfl rfl rfl rfl rfl ?_
  refine WL.step rfl (Stp.res rfl rfl (Res.pickF rfl rfl rfl) ?_)
  refine WL.step rfl (Stp.res rfl rfl (Res.assign rfl rfl) ?_)
  refine WL.nil (Thn_n ?_)
  refine CW.ret ?_
  exact fq_tmp rfl rfl ⟨by rw [decide_eq_false (fun h : Tick.late a b k => hlt h.1)], rfl⟩
theorem late_ok (a b k : Int) (ha : -9223372036854775808 ≤ a ∧ a ≤ 9223372036854775807) (hb : -9223372036854775808 ≤ b ∧ b ≤ 9223372036854775807) (hk : -9223372036854775808 ≤ k ∧ k ≤ 9223372036854775807) (w : World) : Calls Tryz.prog 85 #[.int .i64 a, .int .i64 b, .int .i64 k] w fun e w' => ∃ v, e = .returned v ∧ v = .bool (decide (Tick.late a b k)) ∧ w' = w := by
  by_cases hlt : a < b
  · exact late_yes a b k ha hb hk hlt w
  · exact late_no a b k ha hb hk hlt w
end Go.Proofs.YtcmgimicdcchlaaGreatDoor
set_option linter.unusedVariables false
set_option maxRecDepth 20000
namespace Go.Proofs.YtcmgimicdcchlaaGreatDoor
open Go.Proofs.Tryz
open Go Go.E
theorem judge_ok (c s ac svc : List UInt8) (kv : Value) (f u e fl at_ no now k : Int) (w0 : World) (M : PH) (hM : On M w0) (hf : -9223372036854775808 ≤ f ∧ f ≤ 9223372036854775807) (hu : -9223372036854775808 ≤ u ∧ u ≤ 9223372036854775807) (hat_ : -9223372036854775808 ≤ at_ ∧ at_ ≤ 9223372036854775807) (hnow : -9223372036854775808 ≤ now ∧ now ≤ 9223372036854775807) (hk : -9223372036854775808 ≤ k ∧ k ≤ 9223372036854775807) : Ok Tryz.prog 40 #[.agg #[Go.E.str c, Go.E.str s, kv, .int .i64 f, .int .i64 u, .int .i64 e, .int .i64 fl], .agg #[Go.E.str ac, .int .i64 at_, .int .i64 no], Go.E.str svc, .int .i64 now, .int .i64 k] w0 M (fun M' r => M = M' ∧ r = .int .i64 (Tick.judge c s f u ac at_ svc now k)) := by
  have hS := hM.st
  refine enterB (l := [.agg #[Go.E.str c, Go.E.str s, kv, .int .i64 f, .int .i64 u, .int .i64 e, .int .i64 fl], .agg #[Go.E.str ac, .int .i64 at_, .int .i64 no], Go.E.str svc, .int .i64 now, .int .i64 k]) 46 func40 rfl ntmps40 rfl ?_
  refine CW.seq ?_
  refine CW.region ?_
  refine WL.step rfl (Stp.boxA rfl rfl rfl rfl hS ?_)
  intro b5 w hb5 hS hkp hnw
  refine WL.step rfl (Stp.boxA rfl rfl rfl rfl hS ?_)
  intro b6 w hb6 hS hkp hnw
  refine WL.step rfl (Stp.res rfl rfl (Res.assign rfl rfl) ?_)
  refine WL.nil (Thn_n ?_)
  refine CW.seq ?_
  refine CW.block ?_
  refine CW.seq ?_
  refine CW.block ?_
  refine CW.seq ?_
  refine CW.block ?_
  refine CW.seq ?_
  refine CW.block ?_
  refine CW.block ?_
  refine CW.seq ?_
  refine CW.block ?_
  refine CW.seq ?_
  refine CW.block ?_
  refine CW.seq ?_
  refine CW.seq ?_
  refine CW.seq ?_
  refine CW.region ?_
  refine WL.step rfl (Stp.res rfl rfl (Res.fieldA rfl rfl underlying57 rfl (show SZ Tryz.prog _ 1 from sz9) (by decide)) ?_)
  refine WL.step rfl (Stp.res rfl rfl (Res.load1 (v := Go.E.str s) rfl rfl underlying9 rfl (hS.ocell (i := 1) rfl rfl)) ?_)
  refine WL.step rfl (Stp.res rfl rfl (Res.move rfl rfl) ?_)
  refine WL.step rfl (Stp.res rfl rfl (Res.neqS rfl rfl rfl) ?_)
  refine WL.step rfl (Stp.res rfl rfl (Res.assign rfl rfl) ?_)
  refine WL.nil (Thn_n ?_)
  refine CW.ite rfl (fun h1 => ?_) (fun h1 => ?_)
  · refine CW.exit (Thn_x (Thn_x (Blk_x (Thn_n ?_))))
    refine CW.seq ?_
    refine CW.seq ?_
    refine CW.region ?_
    refine WL.step rfl (Stp.res rfl rfl (Res.assign rfl rfl) ?_)
    refine WL.nil (Thn_n ?_)
    refine CW.ret (Thn_r (Blk_r (Thn_r (Blk_r (Blk_r (Thn_r (Blk_r (Thn_r (Blk_r (Thn_r (Blk_r (Thn_r ?_))))))))))))
    exact fq_tmp rfl rfl ⟨M, (hS.drop (i := 0) rfl hb6).drop (i := 0) rfl hb5, PH.le.refl _, Fresh.refl _ _, rfl, by rw [Tick.judge, if_pos h1]⟩
  · refine CW.skip (Thn_n ?_)
    refine CW.seq ?_
    refine CW.seq ?_
    refine CW.region ?_
    refine WL.step rfl (Stp.res rfl rfl (Res.fieldA rfl rfl underlying57 rfl (show SZ Tryz.prog _ 1 from sz9) (by decide)) ?_)
    refine WL.step rfl (Stp.res rfl rfl (Res.load1 (v := Go.E.str c) rfl rfl underlying9 rfl (hS.ocell (i := 1) rfl rfl)) ?_)
    refine WL.step rfl (Stp.res rfl rfl (Res.fieldA rfl rfl underlying67 rfl (show SZ Tryz.prog _ 1 from sz9) (by decide)) ?_)
    refine WL.step rfl (Stp.res rfl rfl (Res.load1 (v := Go.E.str ac) rfl rfl underlying9 rfl (hS.ocell (i := 0) rfl rfl)) ?_)
    refine WL.step rfl (Stp.res rfl rfl (Res.neqS rfl rfl rfl) ?_)
    refine WL.step rfl (Stp.res rfl rfl (Res.assign rfl rfl) ?_)
    refine WL.nil (Thn_n ?_)
    refine CW.ite rfl (fun h2 => ?_) (fun h2 => ?_)
    · refine CW.exit (Thn_x (Thn_x (Blk_y rfl (Thn_x (Blk_x (Thn_n ?_))))))
      refine CW.seq ?_
      refine CW.seq ?_
      refine CW.region ?_
      refine WL.step rfl (Stp.res rfl rfl (Res.assign rfl rfl) ?_)
      refine WL.nil (Thn_n ?_)
      refine CW.ret (Thn_r (Blk_r (Blk_r (Thn_r (Blk_r (Thn_r (Blk_r (Thn_r (Blk_r (Thn_r ?_))))))))))
      exact fq_tmp rfl rfl ⟨M, (hS.drop (i := 0) rfl hb6).drop (i := 0) rfl hb5, PH.le.refl _, Fresh.refl _ _, rfl, by rw [Tick.judge, if_neg h1, if_pos h2]⟩
    · refine CW.skip (Thn_n ?_)
      refine CW.seq ?_
      refine CW.seq ?_
      refine CW.region ?_
      refine WL.step rfl (Stp.res rfl rfl (Res.fieldA rfl rfl underlying67 rfl (show SZ Tryz.prog _ 1 from sz3) (by decide)) ?_)
      refine WL.step rfl (Stp.res rfl rfl (Res.load1 (v := .int .i64 at_) rfl rfl underlying3 rfl (hS.ocell (i := 0) rfl rfl)) ?_)
      refine WL.step rfl (Stp.res rfl rfl (Res.move rfl rfl) ?_)
      refine WL.step rfl (Stp.res rfl rfl (Res.move rfl rfl) ?_)
      refine WL.step rfl (Stp.callA (args := [_, _, _]) rfl rfl rfl cal85 rfl rfl (late_ok at_ now k hat_ hnow hk _) ?_)
      refine WL.step rfl (Stp.res rfl rfl (Res.assign rfl rfl) ?_)
      refine WL.nil (Thn_n ?_)
      refine CW.ite rfl (fun h3 => ?_) (fun h3 => ?_)
      · refine CW.exit (Thn_x (Thn_x (Blk_y rfl (Thn_x (Blk_y rfl (Thn_x (Blk_x (Blk_n (Thn_n ?_)))))))))
        refine CW.seq ?_
        refine CW.seq ?_
        refine CW.region ?_
        refine WL.step rfl (Stp.res rfl rfl (Res.assign rfl rfl) ?_)
        refine WL.nil (Thn_n ?_)
        refine CW.ret (Thn_r (Blk_r (Thn_r (Blk_r (Thn_r (Blk_r (Thn_r ?_)))))))
        exact fq_tmp rfl rfl ⟨M, (hS.drop (i := 0) rfl hb6).drop (i := 0) rfl hb5, PH.le.refl _, Fresh.refl _ _, rfl, by rw [Tick.judge, if_neg h1, if_neg h2, if_pos h3]⟩
      · refine CW.skip (Thn_n ?_)
        refine CW.seq ?_
        refine CW.seq ?_
        refine CW.region ?_
        refine WL.step rfl (Stp.res rfl rfl (Res.move rfl rfl) ?_)
        refine WL.step rfl (Stp.res rfl rfl (Res.fieldA rfl rfl underlying67 rfl (show SZ Tryz.prog _ 1 from sz3) (by decide)) ?_)
        refine WL.step rfl (Stp.res rfl rfl (Res.load1 (v := .int .i64 at_) rfl rfl underlying3 rfl (hS.ocell (i := 0) rfl rfl)) ?_)
        refine WL.step rfl (Stp.res rfl rfl (Res.move rfl rfl) ?_)
        refine WL.step rfl (Stp.callA (args := [_, _, _]) rfl rfl rfl cal85 rfl rfl (late_ok now at_ k hnow hat_ hk _) ?_)
        refine WL.step rfl (Stp.res rfl rfl (Res.assign rfl rfl) ?_)
        refine WL.nil (Thn_n ?_)
        refine CW.ite rfl (fun h4 => ?_) (fun h4 => ?_)
        · refine CW.exit (Thn_x (Thn_x (Blk_y rfl (Thn_x (Blk_y rfl (Thn_x (Blk_y rfl (Blk_x (Thn_n ?_)))))))))
          refine CW.seq ?_
          refine CW.seq ?_
          refine CW.region ?_
          refine WL.step rfl (Stp.res rfl rfl (Res.assign rfl rfl) ?_)
          refine WL.nil (Thn_n ?_)
          refine CW.ret (Thn_r (Blk_r (Thn_r (Blk_r (Thn_r (Blk_r (Thn_r ?_)))))))
          exact fq_tmp rfl rfl ⟨M, (hS.drop (i := 0) rfl hb6).drop (i := 0) rfl hb5, PH.le.refl _, Fresh.refl _ _, rfl, by rw [Tick.judge, if_neg h1, if_neg h2, if_neg h3, if_pos h4]⟩
        · refine CW.skip (Thn_n ?_)
          refine CW.seq ?_
          refine CW.seq ?_
          refine CW.region ?_
          refine WL.step rfl (Stp.res rfl rfl (Res.move rfl rfl) ?_)
          refine WL.step rfl (Stp.res rfl rfl (Res.fieldA rfl rfl underlying57 rfl (show SZ Tryz.prog _ 1 from sz3) (by decide)) ?_)
          refine WL.step rfl (Stp.res rfl rfl (Res.load1 (v := .int .i64 f) rfl rfl underlying3 rfl (hS.ocell (i := 1) rfl rfl)) ?_)
          refine WL.step rfl (Stp.res rfl rfl (Res.move rfl rfl) ?_)
          refine WL.step rfl (Stp.callA (args := [_, _, _]) rfl rfl rfl cal85 rfl rfl (late_ok now f k hnow hf hk _) ?_)
          refine WL.step rfl (Stp.res rfl rfl (Res.assign rfl rfl) ?_)
          refine WL.nil (Thn_n ?_)
          refine CW.ite rfl (fun h5 => ?_) (fun h5 => ?_)
          · refine CW.exit (Thn_x (Thn_x (Blk_y rfl (Thn_x (Blk_y rfl (Thn_x (Blk_y rfl (Blk_y rfl (Thn_x (Blk_x (Thn_n ?_)))))))))))
            refine CW.seq ?_
            refine CW.seq ?_
            refine CW.region ?_
            refine WL.step rfl (Stp.res rfl rfl (Res.assign rfl rfl) ?_)
            refine WL.nil (Thn_n ?_)
            refine CW.ret (Thn_r (Blk_r (Thn_r (Blk_r (Thn_r ?_)))))
            exact fq_tmp rfl rfl ⟨M, (hS.drop (i := 0) rfl hb6).drop (i := 0) rfl hb5, PH.le.refl _, Fresh.refl _ _, rfl, by rw [Tick.judge, if_neg h1, if_neg h2, if_neg h3, if_neg h4, if_pos h5]⟩
          · refine CW.skip (Thn_n ?_)
            refine CW.seq ?_
            refine CW.region ?_
            refine WL.step rfl (Stp.res rfl rfl (Res.fieldA rfl rfl underlying57 rfl (show SZ Tryz.prog _ 1 from sz3) (by decide)) ?_)
            refine WL.step rfl (Stp.res rfl rfl (Res.load1 (v := .int .i64 u) rfl rfl underlying3 rfl (hS.ocell (i := 1) rfl rfl)) ?_)
            refine WL.step rfl (Stp.res rfl rfl (Res.move rfl rfl) ?_)
            refine WL.step rfl (Stp.res rfl rfl (Res.move rfl rfl) ?_)
            refine WL.step rfl (Stp.callA (args := [_, _, _]) rfl rfl rfl cal85 rfl rfl (late_ok u now k hu hnow hk _) ?_)
            refine WL.step rfl (Stp.res rfl rfl (Res.assign rfl rfl) ?_)
            refine WL.nil (Thn_n ?_)
            refine CW.ite rfl (fun h6 => ?_) (fun h6 => ?_)
            · refine CW.exit (Thn_x (Blk_y rfl (Thn_x (Blk_y rfl (Thn_x (Blk_y rfl (Blk_y rfl (Thn_x (Blk_y rfl (Thn_x (Blk_x (Thn_n ?_))))))))))))
              refine CW.seq ?_
              refine CW.seq ?_
              refine CW.region ?_
              refine WL.step rfl (Stp.res rfl rfl (Res.assign rfl rfl) ?_)
              refine WL.nil (Thn_n ?_)
              refine CW.ret (Thn_r (Blk_r (Thn_r ?_)))
              exact fq_tmp rfl rfl ⟨M, (hS.drop (i := 0) rfl hb6).drop (i := 0) rfl hb5, PH.le.refl _, Fresh.refl _ _, rfl, by rw [Tick.judge, if_neg h1, if_neg h2, if_neg h3, if_neg h4, if_neg h5, if_pos h6]⟩
            · refine CW.skip (Thn_n ?_)
              refine CW.exit (Blk_y rfl (Thn_x (Blk_y rfl (Thn_x (Blk_y rfl (Blk_y rfl (Thn_x (Blk_y rfl (Thn_x (Blk_y rfl (Thn_x (Blk_x (Thn_n ?_)))))))))))))
              refine CW.seq ?_
              refine CW.region ?_
              refine WL.step rfl (Stp.res rfl rfl (Res.assign rfl rfl) ?_)
              refine WL.nil (Thn_n ?_)
              refine CW.ret ?_
              exact fq_tmp rfl rfl ⟨M, (hS.drop (i := 0) rfl hb6).drop (i := 0) rfl hb5, PH.le.refl _, Fresh.refl _ _, rfl, by rw [Tick.judge, if_neg h1, if_neg h2, if_neg h3, if_neg h4, if_neg h5, if_neg h6]⟩
end Go.Proofs.YtcmgimicdcchlaaGreatDoor
set_option linter.unusedVariables false
set_option maxRecDepth 20000
namespace Go.Proofs.YtcmgimicdcchlaaGreatDoor
open Go.Proofs.Tryz
open Go Go.E
end Go.Proofs.YtcmgimicdcchlaaGreatDoor
set_option linter.unusedVariables false
set_option maxRecDepth 20000
namespace Go.Proofs.YtcmgimicdcchlaaGreatDoor
open Go.Proofs.Tryz
open Go Go.E
theorem tsame_ok (c s kl : List UInt8) (k1 k2 : Value) (f u e fl : Int) (w0 : World) (M : PH) (hM : On M w0) (hk1 : Bs M k1 kl) (hk2 : Bs M k2 kl) : Ok Tryz.prog 38 #[.agg #[Go.E.str c, Go.E.str s, k1, .int .i64 f, .int .i64 u, .int .i64 e, .int .i64 fl], .agg #[Go.E.str c, Go.E.str s, k2, .int .i64 f, .int .i64 u, .int .i64 e, .int .i64 fl]] w0 M (fun M' r => M = M' ∧ r = .bool true) := by
  have hS := hM.st
  refine enterB (l := [.agg #[Go.E.str c, Go.E.str s, k1, .int .i64 f, .int .i64 u, .int .i64 e, .int .i64 fl], .agg #[Go.E.str c, Go.E.str s, k2, .int .i64 f, .int .i64 u, .int .i64 e, .int .i64 fl]]) 52 func38 rfl ntmps38 rfl ?_
  refine CW.seq ?_
  refine CW.region ?_
  refine WL.step rfl (Stp.boxA rfl rfl rfl rfl hS ?_)
  intro b2 w hb2 hS hkp hnw
  refine WL.step rfl (Stp.boxA rfl rfl rfl rfl hS ?_)
  intro b3 w hb3 hS hkp hnw
  refine WL.step rfl (Stp.res rfl rfl (Res.assign rfl rfl) ?_)
  refine WL.nil (Thn_n ?_)
  refine CW.seq ?_
  refine CW.region ?_
  refine WL.step rfl (Stp.res rfl rfl (Res.fieldA rfl rfl underlying57 rfl (show SZ Tryz.prog _ 1 from sz9) (by decide)) ?_)
  refine WL.step rfl (Stp.res rfl rfl (Res.load1 (v := Go.E.str c) rfl rfl underlying9 rfl (hS.ocell (i := 1) rfl rfl)) ?_)
  refine WL.step rfl (Stp.res rfl rfl (Res.fieldA rfl rfl underlying57 rfl (show SZ Tryz.prog _ 1 from sz9) (by decide)) ?_)
  refine WL.step rfl (Stp.res rfl rfl (Res.load1 (v := Go.E.str c) rfl rfl underlying9 rfl (hS.ocell (i := 0) rfl rfl)) ?_)
  refine WL.step rfl (Stp.res rfl rfl (Res.to (Res.eqlS rfl rfl rfl) rfl) ?_)
  refine WL.step rfl (Stp.res rfl rfl (Res.move rfl rfl) ?_)
  refine WL.stepG 5 true rfl rfl rfl rfl (Stp.res rfl rfl (Res.fieldA rfl rfl underlying57 rfl (show SZ Tryz.prog _ 1 from sz9) (by decide)) ?_)
  refine WL.stepG 5 true rfl rfl rfl rfl (Stp.res rfl rfl (Res.load1 (v := Go.E.str s) rfl rfl underlying9 rfl (hS.ocell (i := 1) rfl rfl)) ?_)
  refine WL.stepG 5 true rfl rfl rfl rfl (Stp.res rfl rfl (Res.fieldA rfl rfl underlying57 rfl (show SZ Tryz.prog _ 1 from sz9) (by decide)) ?_)
  refine WL.stepG 5 true rfl rfl rfl rfl (Stp.res rfl rfl (Res.load1 (v := Go.E.str s) rfl rfl underlying9 rfl (hS.ocell (i := 0) rfl rfl)) ?_)
  refine WL.stepG 5 true rfl rfl rfl rfl (Stp.res rfl rfl (Res.to (Res.eqlS rfl rfl rfl) rfl) ?_)
  refine WL.step rfl (Stp.res rfl rfl (Res.pickT rfl rfl rfl) ?_)
  refine WL.step rfl (Stp.res rfl rfl (Res.move rfl rfl) ?_)
  refine WL.stepG 12 true rfl rfl rfl rfl (Stp.res rfl rfl (Res.fieldA rfl rfl underlying57 rfl (show SZ Tryz.prog _ 1 from sz3) (by decide)) ?_)
  refine WL.stepG 12 true rfl rfl rfl rfl (Stp.res rfl rfl (Res.load1 (v := .int .i64 f) rfl rfl underlying3 rfl (hS.ocell (i := 1) rfl rfl)) ?_)
  refine WL.stepG 12 true rfl rfl rfl rfl (Stp.res rfl rfl (Res.fieldA rfl rfl underlying57 rfl (show SZ Tryz.prog _ 1 from sz3) (by decide)) ?_)
  refine WL.stepG 12 true rfl rfl rfl rfl (Stp.res rfl rfl (Res.load1 (v := .int .i64 f) rfl rfl underlying3 rfl (hS.ocell (i := 0) rfl rfl)) ?_)
  refine WL.stepG 12 true rfl rfl rfl rfl (Stp.res rfl rfl (Res.to (Res.eql rfl rfl rfl) rfl) ?_)
  refine WL.step rfl (Stp.res rfl rfl (Res.pickT rfl rfl rfl) ?_)
  refine WL.step rfl (Stp.res rfl rfl (Res.move rfl rfl) ?_)
  refine WL.stepG 19 true rfl rfl rfl rfl (Stp.res rfl rfl (Res.fieldA rfl rfl underlying57 rfl (show SZ Tryz.prog _ 1 from sz3) (by decide)) ?_)
  refine WL.stepG 19 true rfl rfl rfl rfl (Stp.res rfl rfl (Res.load1 (v := .int .i64 u) rfl rfl underlying3 rfl (hS.ocell (i := 1) rfl rfl)) ?_)
  refine WL.stepG 19 true rfl rfl rfl rfl (Stp.res rfl rfl (Res.fieldA rfl rfl underlying57 rfl (show SZ Tryz.prog _ 1 from sz3) (by decide)) ?_)
  refine WL.stepG 19 true rfl rfl rfl rfl (Stp.res rfl rfl (Res.load1 (v := .int .i64 u) rfl rfl underlying3 rfl (hS.ocell (i := 0) rfl rfl)) ?_)
  refine WL.stepG 19 true rfl rfl rfl rfl (Stp.res rfl rfl (Res.to (Res.eql rfl rfl rfl) rfl) ?_)
  refine WL.step rfl (Stp.res rfl rfl (Res.pickT rfl rfl rfl) ?_)
  refine WL.step rfl (Stp.res rfl rfl (Res.move rfl rfl) ?_)
  refine WL.stepG 26 true rfl rfl rfl rfl (Stp.res rfl rfl (Res.fieldA rfl rfl underlying57 rfl (show SZ Tryz.prog _ 1 from sz3) (by decide)) ?_)
  refine WL.stepG 26 true rfl rfl rfl rfl (Stp.res rfl rfl (Res.load1 (v := .int .i64 e) rfl rfl underlying3 rfl (hS.ocell (i := 1) rfl rfl)) ?_)
  refine WL.stepG 26 true rfl rfl rfl rfl (Stp.res rfl rfl (Res.fieldA rfl rfl underlying57 rfl (show SZ Tryz.prog _ 1 from sz3) (by decide)) ?_)
  refine WL.stepG 26 true rfl rfl rfl rfl (Stp.res rfl rfl (Res.load1 (v := .int .i64 e) rfl rfl underlying3 rfl (hS.ocell (i := 0) rfl rfl)) ?_)
  refine WL.stepG 26 true rfl rfl rfl rfl (Stp.res rfl rfl (Res.to (Res.eql rfl rfl rfl) rfl) ?_)
  refine WL.step rfl (Stp.res rfl rfl (Res.pickT rfl rfl rfl) ?_)
  refine WL.step rfl (Stp.res rfl rfl (Res.move rfl rfl) ?_)
  refine WL.stepG 33 true rfl rfl rfl rfl (Stp.res rfl rfl (Res.fieldA rfl rfl underlying57 rfl (show SZ Tryz.prog _ 1 from sz3) (by decide)) ?_)
  refine WL.stepG 33 true rfl rfl rfl rfl (Stp.res rfl rfl (Res.load1 (v := .int .i64 fl) rfl rfl underlying3 rfl (hS.ocell (i := 1) rfl rfl)) ?_)
  refine WL.stepG 33 true rfl rfl rfl rfl (Stp.res rfl rfl (Res.fieldA rfl rfl underlying57 rfl (show SZ Tryz.prog _ 1 from sz3) (by decide)) ?_)
  refine WL.stepG 33 true rfl rfl rfl rfl (Stp.res rfl rfl (Res.load1 (v := .int .i64 fl) rfl rfl underlying3 rfl (hS.ocell (i := 0) rfl rfl)) ?_)
  refine WL.stepG 33 true rfl rfl rfl rfl (Stp.res rfl rfl (Res.to (Res.eql rfl rfl rfl) rfl) ?_)
  refine WL.step rfl (Stp.res rfl rfl (Res.pickT rfl rfl rfl) ?_)
  refine WL.step rfl (Stp.res rfl rfl (Res.move rfl rfl) ?_)
  refine WL.stepG 40 true rfl rfl rfl rfl (Stp.res rfl rfl (Res.fieldA rfl rfl underlying57 rfl (show SZ Tryz.prog _ 1 from sz30) (by decide)) ?_)
  refine WL.stepG 40 true rfl rfl rfl rfl (Stp.res rfl rfl (Res.load1 (v := k1) rfl rfl underlying30 rfl (hS.ocell (i := 1) rfl rfl)) ?_)
  refine WL.stepG 40 true rfl rfl rfl rfl (Stp.res rfl rfl (Res.fieldA rfl rfl underlying57 rfl (show SZ Tryz.prog _ 1 from sz30) (by decide)) ?_)
  refine WL.stepG 40 true rfl rfl rfl rfl (Stp.res rfl rfl (Res.load1 (v := k2) rfl rfl underlying30 rfl (hS.ocell (i := 0) rfl rfl)) ?_)
  refine WL.stepG 40 true rfl rfl rfl rfl (Stp.callA (args := [_, _]) rfl rfl rfl cal24 rfl rfl (samebytes_t _ _ kl kl M _ hS.on hk1 hk2 rfl) ?_)
  refine WL.step rfl (Stp.res rfl rfl (Res.pickT rfl rfl rfl) ?_)
  refine WL.step rfl (Stp.res rfl rfl (Res.assign rfl rfl) ?_)
  refine WL.nil (Thn_n ?_)
  refine CW.ret ?_
  exact fq_tmp rfl rfl ⟨M, (hS.drop (i := 0) rfl hb3).drop (i := 0) rfl hb2, PH.le.refl _, Fresh.refl _ _, rfl, rfl⟩
end Go.Proofs.YtcmgimicdcchlaaGreatDoor
set_option linter.unusedVariables false
set_option maxRecDepth 20000
namespace Go.Proofs.YtcmgimicdcchlaaGreatDoor
open Go.Proofs.Tryz
open Go Go.E
theorem works20_ok  (w0 : World) (M : PH) (hM : On M w0) (hgl : GL M) : Ok Tryz.prog 39 #[] w0 M (fun M' r => r = .bool true) := by
  have hS := hM.st
  have hgd : Seal.Good (List.replicate 16 0) 11 := ⟨rfl, by decide, by decide⟩
  have hle : (Tick.enc 0 [[99], Tick.be8 10, Tick.be8 3]).length ≤ 4096 := by rw [Tick.enc_length]; simp
  refine enterB (l := []) 72 func39 rfl ntmps39 rfl ?_
  refine CW.seq ?_
  refine CW.region ?_
  refine WL.step rfl (Stp.res rfl rfl (Res.assign rfl rfl) ?_)
  refine WL.nil (Thn_n ?_)
  refine CW.seq ?_
  refine CW.region ?_
  refine WL.step rfl (Stp.res rfl rfl (Res.build (vals := [(0, Go.E.str [99]), (1, Go.E.str [115]), (3, .int .i64 5), (4, .int .i64 9)]) (cs := #[Go.E.str [99], Go.E.str [115], .slice none 0 0, .int .i64 5, .int .i64 9, .int .i64 0, .int .i64 0]) rfl rfl (fun _ => by kernel_rfl)) ?_)
  refine WL.step rfl (Stp.alloc (cs := #[Go.E.str [], Go.E.str [], .slice none 0 0, .int .i64 0, .int .i64 0, .int .i64 0, .int .i64 0]) rfl zTk rfl rfl rfl hS ?_)
  intro b1 w hb1 hS hkp hnw
  refine WL.step rfl (Stp.storeAll 0 rfl rfl rfl (sz57) one7 rfl hS rfl rfl ?_)
  intro w hS hpt
  refine WL.nil (Thn_n ?_)
  refine CW.seq ?_
  refine CW.region ?_
  refine WL.step rfl (Stp.res rfl rfl (Res.loadAll (cs := #[Go.E.str [99], Go.E.str [115], .slice none 0 0, .int .i64 5, .int .i64 9, .int .i64 0, .int .i64 0]) rfl rfl underlying57 rfl (sz57) (hS.get (i := 0) rfl)) ?_)
  refine WL.step rfl (Stp.callG (args := [_]) rfl rfl rfl cal33 rfl rfl hS (tbytes_ok [99] [115] (.slice none 0 0) 5 9 0 0 _ _ hS.on ⟨by decide, by decide⟩ ⟨by decide, by decide⟩ (by decide) (by decide) (by decide) (by decide) (by decide)) ?_)
  rintro _ w M1 hS hG1 ⟨v, rfl, hv⟩
  refine WL.step rfl (Stp.res rfl rfl (Res.move rfl rfl) ?_)
  refine WL.step rfl (Stp.res rfl rfl (Res.extract (l := [_, _]) rfl rfl rfl) ?_)
  refine WL.step rfl (Stp.res rfl rfl (Res.extract (l := [_, _]) rfl rfl rfl) ?_)
  refine WL.step rfl (Stp.res rfl rfl (Res.assign rfl rfl) ?_)
  refine WL.step rfl (Stp.res rfl rfl (Res.assign rfl rfl) ?_)
  refine WL.nil (Thn_n ?_)
  refine CW.seq ?_
  refine CW.region ?_
  refine WL.step rfl (Stp.res rfl rfl (Res.move rfl rfl) ?_)
  refine WL.step rfl (Stp.callG (args := [_]) rfl rfl rfl cal35 rfl rfl hS (tread_ok _ [99] [115] 5 9 0 0 _ _ hS.on hv ⟨by decide, by decide⟩ ⟨by decide, by decide⟩ (by decide) (by decide) (by decide) (by decide) (by decide)) ?_)
  rintro _ w _ hS _ ⟨rfl, rfl⟩
  refine WL.step rfl (Stp.res rfl rfl (Res.move rfl rfl) ?_)
  refine WL.step rfl (Stp.res rfl rfl (Res.extract (l := [_, _]) rfl rfl rfl) ?_)
  refine WL.step rfl (Stp.res rfl rfl (Res.extract (l := [_, _]) rfl rfl rfl) ?_)
  refine WL.step rfl (Stp.alloc (cs := #[Go.E.str [], Go.E.str [], .slice none 0 0, .int .i64 0, .int .i64 0, .int .i64 0, .int .i64 0]) rfl zTk rfl rfl rfl hS ?_)
  intro b4 w hb4 hS hkp hnw
  refine WL.step rfl (Stp.storeAll 0 rfl rfl rfl (sz57) one7 rfl hS rfl rfl ?_)
  intro w hS hpt
  refine WL.step rfl (Stp.res rfl rfl (Res.assign rfl rfl) ?_)
  refine WL.nil (Thn_n ?_)
  refine CW.seq ?_
  refine CW.region ?_
  refine WL.step rfl (Stp.makeB (k := 16) (c := 16) rfl rfl rfl et30 ⟨Nat.le_refl 16, by decide⟩ rfl rfl hS ?_)
  intro b22 w hb22 hS hkp hnw
  refine WL.step rfl (Stp.res rfl rfl (Res.assign rfl rfl) ?_)
  refine WL.nil (Thn_n ?_)
  refine CW.seq ?_
  have hF := hS.freezeG (i := 0) rfl hb22
  obtain ⟨M2, hG2, hz, hS⟩ : ∃ M2, Grow w0.heap.size M1 M2 ∧ Bs M2 (.slice (some ⟨b22, 0, none⟩) 16 16) (List.replicate 16 0) ∧ St w0 w M2 [(b4, .cells #[Go.E.str [99], Go.E.str [115], .slice none 0 0, .int .i64 5, .int .i64 9, .int .i64 0, .int .i64 0] 57 (0, 0)), (b1, .cells #[Go.E.str [99], Go.E.str [115], .slice none 0 0, .int .i64 5, .int .i64 9, .int .i64 0, .int .i64 0] 57 (0, 0))] := ⟨_, hF.2, Bs.of' (PH.add_self _ _ _) (List.length_replicate ..) (by omega), hF.1⟩
  refine CW.region ?_
  refine WL.step rfl (Stp.res rfl rfl (Res.move rfl rfl) ?_)
  refine WL.step rfl (Stp.res rfl rfl (Res.move rfl rfl) ?_)
  refine WL.step rfl (Stp.res rfl rfl (Res.build (vals := [(0, Go.E.str [99]), (1, .int .i64 10), (2, .int .i64 3)]) (cs := #[Go.E.str [99], .int .i64 10, .int .i64 3]) rfl rfl (fun _ => by kernel_rfl)) ?_)
  refine WL.step rfl (Stp.callG (args := [_, _, _]) rfl rfl rfl cal44 rfl rfl hS (tseal_ok _ _ (List.replicate 16 0) (List.replicate 16 0) [99] 10 3 _ _ hS.on (hgl.mono (hG1.trans hG2).1) hz hz ⟨by decide, by decide⟩ (by decide) (by decide)) ?_)
  rintro _ w M3 hS hG3 ⟨sv, rfl, hsv⟩
  rw [Seal.sealR_ok hgd rfl hle] at hsv ⊢
  change Bs M3 sv (Seal.sealed (Seal.ek (List.replicate 16 0) 11) (Seal.ik (List.replicate 16 0) 11) (List.replicate 16 0) (Tick.enc 0 [[99], Tick.be8 10, Tick.be8 3])) at hsv
  refine WL.step rfl (Stp.res rfl rfl (Res.move rfl rfl) ?_)
  refine WL.step rfl (Stp.res rfl rfl (Res.extract (l := [_, _]) rfl rfl rfl) ?_)
  refine WL.step rfl (Stp.res rfl rfl (Res.extract (l := [_, _]) rfl rfl rfl) ?_)
  refine WL.step rfl (Stp.res rfl rfl (Res.assign rfl rfl) ?_)
  refine WL.step rfl (Stp.res rfl rfl (Res.assign rfl rfl) ?_)
  refine WL.nil (Thn_n ?_)
  refine CW.seq ?_
  refine CW.region ?_
  refine WL.step rfl (Stp.res rfl rfl (Res.move rfl rfl) ?_)
  refine WL.step rfl (Stp.res rfl rfl (Res.move rfl rfl) ?_)
  refine WL.step rfl (Stp.callG (args := [_, _]) rfl rfl rfl cal48 rfl rfl hS (topen_ok _ _ (List.replicate 16 0) (Seal.sealed (Seal.ek (List.replicate 16 0) 11) (Seal.ik (List.replicate 16 0) 11) (List.replicate 16 0) (Tick.enc 0 [[99], Tick.be8 10, Tick.be8 3])) [99] 10 3 _ _ hS.on (hgl.mono ((hG1.trans hG2).trans hG3).1) (hz.mono hG3.1) hsv (Seal.openR_sealed hgd rfl hle) ⟨by decide, by decide⟩ (by decide) (by decide)) ?_)
  rintro _ w _ hS _ ⟨rfl, rfl⟩
  refine WL.step rfl (Stp.res rfl rfl (Res.move rfl rfl) ?_)
  refine WL.step rfl (Stp.res rfl rfl (Res.extract (l := [_, _]) rfl rfl rfl) ?_)
  refine WL.step rfl (Stp.res rfl rfl (Res.extract (l := [_, _]) rfl rfl rfl) ?_)
  refine WL.step rfl (Stp.alloc (cs := #[Go.E.str [], .int .i64 0, .int .i64 0]) rfl zAu rfl rfl rfl hS ?_)
  intro b9 w hb9 hS hkp hnw
  refine WL.step rfl (Stp.storeAll 0 rfl rfl rfl (sz67) one3 rfl hS rfl rfl ?_)
  intro w hS hpt
  refine WL.step rfl (Stp.res rfl rfl (Res.assign rfl rfl) ?_)
  refine WL.nil (Thn_n ?_)
  refine CW.seq ?_
  refine CW.region ?_
  refine WL.step rfl (Stp.res rfl rfl (Res.move rfl rfl) ?_)
  refine WL.step rfl (Stp.res rfl rfl (Res.to (Res.eql rfl rfl rfl) rfl) ?_)
  refine WL.step rfl (Stp.res rfl rfl (Res.move rfl rfl) ?_)
  refine WL.stepG 2 true rfl rfl rfl rfl (Stp.res rfl rfl (Res.move rfl rfl) ?_)
  refine WL.stepG 2 true rfl rfl rfl rfl (Stp.res rfl rfl (Res.to (Res.eql rfl rfl rfl) rfl) ?_)
  refine WL.step rfl (Stp.res rfl rfl (Res.pickT rfl rfl rfl) ?_)
  refine WL.step rfl (Stp.res rfl rfl (Res.move rfl rfl) ?_)
  refine WL.stepG 6 true rfl rfl rfl rfl (Stp.res rfl rfl (Res.move rfl rfl) ?_)
  refine WL.stepG 6 true rfl rfl rfl rfl (Stp.res rfl rfl (Res.to (Res.eql rfl rfl rfl) rfl) ?_)
  refine WL.step rfl (Stp.res rfl rfl (Res.pickT rfl rfl rfl) ?_)
  refine WL.step rfl (Stp.res rfl rfl (Res.move rfl rfl) ?_)
  refine WL.stepG 10 true rfl rfl rfl rfl (Stp.res rfl rfl (Res.move rfl rfl) ?_)
  refine WL.stepG 10 true rfl rfl rfl rfl (Stp.res rfl rfl (Res.to (Res.eql rfl rfl rfl) rfl) ?_)
  refine WL.step rfl (Stp.res rfl rfl (Res.pickT rfl rfl rfl) ?_)
  refine WL.step rfl (Stp.res rfl rfl (Res.move rfl rfl) ?_)
  refine WL.stepG 14 true rfl rfl rfl rfl (Stp.res rfl rfl (Res.loadAll (cs := #[Go.E.str [99], Go.E.str [115], .slice none 0 0, .int .i64 5, .int .i64 9, .int .i64 0, .int .i64 0]) rfl rfl underlying57 rfl (sz57) (hS.get (i := 2) rfl)) ?_)
  refine WL.stepG 14 true rfl rfl rfl rfl (Stp.res rfl rfl (Res.loadAll (cs := #[Go.E.str [99], Go.E.str [115], .slice none 0 0, .int .i64 5, .int .i64 9, .int .i64 0, .int .i64 0]) rfl rfl underlying57 rfl (sz57) (hS.get (i := 1) rfl)) ?_)
  refine WL.stepG 14 true rfl rfl rfl rfl (Stp.callG (args := [_, _]) rfl rfl rfl cal38 rfl rfl hS (tsame_ok [99] [115] [] (.slice none 0 0) (.slice none 0 0) 5 9 0 0 _ _ hS.on (Bs.nil _) (Bs.nil _)) ?_)
  rintro _ w _ hS _ ⟨rfl, rfl⟩
  refine WL.step rfl (Stp.res rfl rfl (Res.pickT rfl rfl rfl) ?_)
  refine WL.step rfl (Stp.res rfl rfl (Res.move rfl rfl) ?_)
  refine WL.stepG 19 true rfl rfl rfl rfl (Stp.res rfl rfl (Res.fieldA rfl rfl underlying67 rfl (show SZ Tryz.prog _ 1 from sz3) (by decide)) ?_)
  refine WL.stepG 19 true rfl rfl rfl rfl (Stp.res rfl rfl (Res.load1 (v := .int .i64 3) rfl rfl underlying3 rfl (hS.ocell (i := 0) rfl rfl)) ?_)
  refine WL.stepG 19 true rfl rfl rfl rfl (Stp.res rfl rfl (Res.to (Res.eql rfl rfl rfl) rfl) ?_)
  refine WL.step rfl (Stp.res rfl rfl (Res.pickT rfl rfl rfl) ?_)
  refine WL.step rfl (Stp.res rfl rfl (Res.move rfl rfl) ?_)
  refine WL.stepG 24 true rfl rfl rfl rfl (Stp.res rfl rfl (Res.loadAll (cs := #[Go.E.str [99], Go.E.str [115], .slice none 0 0, .int .i64 5, .int .i64 9, .int .i64 0, .int .i64 0]) rfl rfl underlying57 rfl (sz57) (hS.get (i := 1) rfl)) ?_)
  refine WL.stepG 24 true rfl rfl rfl rfl (Stp.res rfl rfl (Res.loadAll (cs := #[Go.E.str [99], .int .i64 10, .int .i64 3]) rfl rfl underlying67 rfl (sz67) (hS.get (i := 0) rfl)) ?_)
  refine WL.stepG 24 true rfl rfl rfl rfl (Stp.callG (args := [_, _, _, _, _]) rfl rfl rfl cal40 rfl rfl hS (judge_ok [99] [115] [99] [115] (.slice none 0 0) 5 9 0 0 10 3 10 1 _ _ hS.on (by decide) (by decide) (by decide) (by decide) (by decide)) ?_)
  rintro _ w _ hS _ ⟨rfl, rfl⟩
  refine WL.stepG 24 true rfl rfl rfl rfl (Stp.res rfl rfl (Res.to (Res.eql rfl rfl rfl) (by decide)) ?_)
  refine WL.step rfl (Stp.res rfl rfl (Res.pickT rfl rfl rfl) ?_)
  refine WL.step rfl (Stp.res rfl rfl (Res.move rfl rfl) ?_)
  refine WL.stepG 30 true rfl rfl rfl rfl (Stp.res rfl rfl (Res.loadAll (cs := #[Go.E.str [99], Go.E.str [115], .slice none 0 0, .int .i64 5, .int .i64 9, .int .i64 0, .int .i64 0]) rfl rfl underlying57 rfl (sz57) (hS.get (i := 1) rfl)) ?_)
  refine WL.stepG 30 true rfl rfl rfl rfl (Stp.res rfl rfl (Res.loadAll (cs := #[Go.E.str [99], .int .i64 10, .int .i64 3]) rfl rfl underlying67 rfl (sz67) (hS.get (i := 0) rfl)) ?_)
  refine WL.stepG 30 true rfl rfl rfl rfl (Stp.callG (args := [_, _, _, _, _]) rfl rfl rfl cal40 rfl rfl hS (judge_ok [99] [115] [99] [115] (.slice none 0 0) 5 9 0 0 10 3 11 1 _ _ hS.on (by decide) (by decide) (by decide) (by decide) (by decide)) ?_)
  rintro _ w _ hS _ ⟨rfl, rfl⟩
  refine WL.stepG 30 true rfl rfl rfl rfl (Stp.res rfl rfl (Res.to (Res.eql rfl rfl rfl) (by decide)) ?_)
  refine WL.step rfl (Stp.res rfl rfl (Res.pickT rfl rfl rfl) ?_)
  refine WL.step rfl (Stp.res rfl rfl (Res.assign rfl rfl) ?_)
  refine WL.nil (Thn_n ?_)
  refine CW.ret ?_
  have hGA := (hG1.trans hG2).trans hG3
  exact fq_tmp rfl rfl ⟨M3, ((hS.drop (i := 0) rfl hb9).drop (i := 0) rfl hb4).drop (i := 0) rfl hb1, hGA.1, hGA.2, rfl⟩
end Go.Proofs.YtcmgimicdcchlaaGreatDoor
