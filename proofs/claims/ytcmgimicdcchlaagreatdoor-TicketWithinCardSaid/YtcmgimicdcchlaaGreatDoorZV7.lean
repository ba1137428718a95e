/- Own text of this seat (ZV7): lemmas on the way to the statement; no condition of its own. -/
import Derived.Test.YtcmgimicdcchlaaGreatDoorZV6
set_option linter.unusedVariables false
set_option maxRecDepth 20000
namespace Go.Proofs.YtcmgimicdcchlaaGreatDoor
open Go Go.E
theorem law_within0 (c s ac svc : List UInt8) (kv : Value) (f u e fl at_ no now k : Int) (w0 : World) (M : PH) (hM : On M w0) (hgl : GL M) (hf : -9223372036854775808 ≤ f ∧ f ≤ 9223372036854775807) (hu : -9223372036854775808 ≤ u ∧ u ≤ 9223372036854775807) (hat_ : -9223372036854775808 ≤ at_ ∧ at_ ≤ 9223372036854775807) (hnow : -9223372036854775808 ≤ now ∧ now ≤ 9223372036854775807) (hk : -9223372036854775808 ≤ k ∧ k ≤ 9223372036854775807)  (p1 : ¬ (s = svc)) : Ok Tryz.prog 9 #[.agg #[Go.E.str c, Go.E.str s, kv, .int .i64 f, .int .i64 u, .int .i64 e, .int .i64 fl], .agg #[Go.E.str ac, .int .i64 at_, .int .i64 no], Go.E.str svc, .int .i64 now, .int .i64 k] w0 M (fun M' r => M = M' ∧ r = .bool true) := by
  have hS := hM.st
  have hf1 := Seal.amg_lt f (n := 1000) (by omega)
  have hu1 := Seal.amg_lt u (n := 1000) (by omega)
  have ha1 := Seal.amg_lt at_ (n := 1000) (by omega)
  have hn1 := Seal.amg_lt now (n := 1000) (by omega)
  have hk1 := Seal.amg_lt k (n := 100) (by omega)
  have hjz := Tick.judge_zero (c := c) (s := s) (ac := ac) (svc := svc) (f := ((Seal.amg f 1000 : Nat) : Int)) (u := ((Seal.amg u 1000 : Nat) : Int)) (at_ := ((Seal.amg at_ 1000 : Nat) : Int)) (now := ((Seal.amg now 1000 : Nat) : Int)) (k := ((Seal.amg k 100 : Nat) : Int)) (by omega)
  have hj : ¬ (Tick.judge c s ((Seal.amg f 1000 : Nat) : Int) ((Seal.amg u 1000 : Nat) : Int) ac ((Seal.amg at_ 1000 : Nat) : Int) svc ((Seal.amg now 1000 : Nat) : Int) ((Seal.amg k 100 : Nat) : Int) = 0) := fun h => p1 (hjz.1 h).1
  refine enterB (l := [.agg #[Go.E.str c, Go.E.str s, kv, .int .i64 f, .int .i64 u, .int .i64 e, .int .i64 fl], .agg #[Go.E.str ac, .int .i64 at_, .int .i64 no], Go.E.str svc, .int .i64 now, .int .i64 k]) 82 Tryz.func9 rfl Tryz.ntmps9 rfl ?_
  refine CW.seq ?_
  refine CW.region ?_
  refine WL.step rfl (Stp.boxA rfl rfl rfl rfl hS ?_)
  intro b5 w hb5 hS hkp hnw
  refine WL.step rfl (Stp.boxA rfl rfl rfl rfl hS ?_)
  intro b6 w hb6 hS hkp hnw
  refine WL.step rfl (Stp.res rfl rfl (Res.assign rfl rfl) ?_)
  refine WL.nil (Thn_n ?_)
  refine CW.seq ?_
  refine CW.seq ?_
  refine CW.region ?_
  refine WL.step rfl (Stp.callG (args := []) rfl rfl rfl cal39 rfl rfl hS (works20_ok _ _ hS.on hgl) ?_)
  rintro _ w M1 hS hG1 rfl
  refine WL.step rfl (Stp.res rfl rfl (Res.not rfl rfl rfl) ?_)
  refine WL.nil (Thn_n ?_)
  refine CW.condF rfl ?_
  refine CW.skip (Thn_n ?_)
  refine CW.seq ?_
  refine CW.region ?_
  refine WL.step rfl (Stp.res rfl rfl (Res.move rfl rfl) ?_)
  refine WL.step rfl (Stp.callA (args := [_, _]) rfl rfl rfl cal42 rfl rfl (among_ok now 1000 (by omega) _) ?_)
  refine WL.step rfl (Stp.res rfl rfl (Res.move rfl rfl) ?_)
  refine WL.step rfl (Stp.callA (args := [_, _]) rfl rfl rfl cal42 rfl rfl (among_ok k 100 (by omega) _) ?_)
  refine WL.step rfl (Stp.res rfl rfl (Res.assign rfl rfl) ?_)
  refine WL.step rfl (Stp.res rfl rfl (Res.assign rfl rfl) ?_)
  refine WL.nil (Thn_n ?_)
  refine CW.seq ?_
  have hS := hS.drew
  have hK0 := And.intro (hS.get (i := 1) rfl) (hS.get (i := 0) rfl)
  refine CW.last (fun w => w.heap[b5]? = some (.cells #[Go.E.str c, Go.E.str s, kv, .int .i64 f, .int .i64 u, .int .i64 e, .int .i64 fl] 57 (0, 0)) ∧ w.heap[b6]? = some (.cells #[Go.E.str ac, .int .i64 at_, .int .i64 no] 67 (0, 0))) [10, 11, 12, 13, 14] mixed ?_
  refine ZL.take 0 rfl (by kernel_rfl) rfl rfl rfl hK0 (fun w hK => Res.fieldA rfl rfl Tryz.underlying57 rfl (show SZ Tryz.prog _ 1 from sz3) (by decide)) ?_
  refine ZL.take 1 rfl (by kernel_rfl) rfl rfl rfl hK0 (fun w hK => Res.load1 (v := .int .i64 f) rfl rfl Tryz.underlying3 rfl (w := w) (by rw [cell_of hK.1]; rfl)) ?_
  refine ZL.take 3 rfl (by kernel_rfl) rfl rfl rfl hK0 (fun w hK => Res.fieldA rfl rfl Tryz.underlying57 rfl (show SZ Tryz.prog _ 1 from sz3) (by decide)) ?_
  refine ZL.take 4 rfl (by kernel_rfl) rfl rfl rfl hK0 (fun w hK => Res.load1 (v := .int .i64 u) rfl rfl Tryz.underlying3 rfl (w := w) (by rw [cell_of hK.1]; rfl)) ?_
  refine ZL.take 6 rfl (by kernel_rfl) rfl rfl rfl hK0 (fun w hK => Res.fieldA rfl rfl Tryz.underlying67 rfl (show SZ Tryz.prog _ 1 from sz3) (by decide)) ?_
  refine ZL.take 7 rfl (by kernel_rfl) rfl rfl rfl hK0 (fun w hK => Res.load1 (v := .int .i64 at_) rfl rfl Tryz.underlying3 rfl (w := w) (by rw [cell_of hK.2]; rfl)) ?_
  refine ZL.one 2 rfl (by kernel_rfl) rfl (Stp.callA (args := [_, _]) rfl rfl rfl cal42 rfl rfl (among_ok f 1000 (by omega) _) ?_)
  skip
  refine ⟨hK0, ?_⟩
  refine ZL.take 9 rfl (by kernel_rfl) rfl rfl rfl hK0 (fun w hK => Res.fieldA rfl rfl Tryz.underlying57 rfl (show SZ Tryz.prog _ 1 from sz3) (by decide)) ?_
  refine ZL.one 5 rfl (by kernel_rfl) rfl (Stp.callA (args := [_, _]) rfl rfl rfl cal42 rfl rfl (among_ok u 1000 (by omega) _) ?_)
  skip
  refine ⟨hK0, ?_⟩
  refine ZL.one 8 rfl (by kernel_rfl) rfl (Stp.callA (args := [_, _]) rfl rfl rfl cal42 rfl rfl (among_ok at_ 1000 (by omega) _) ?_)
  skip
  refine ⟨hK0, ?_⟩
  refine ZL.end 10 (by decide) rfl (by kernel_rfl) rfl (Stp.store1 1 (v := .int .i64 ((Seal.amg f 1000 : Nat) : Int)) rfl rfl rfl sz3 rfl rfl hS rfl (by show 3 < 7; decide) ?_)
  intro w hS hpt
  refine ZL.end 11 (by decide) rfl (by kernel_rfl) rfl (Stp.res rfl rfl (Res.fieldA rfl rfl Tryz.underlying57 rfl (show SZ Tryz.prog _ 1 from sz3) (by decide)) ?_)
  refine ZL.end 12 (by decide) rfl (by kernel_rfl) rfl (Stp.store1 1 (v := .int .i64 ((Seal.amg u 1000 : Nat) : Int)) rfl rfl rfl sz3 rfl rfl hS rfl (by show 4 < 7; decide) ?_)
  intro w hS hpt
  refine ZL.end 13 (by decide) rfl (by kernel_rfl) rfl (Stp.res rfl rfl (Res.fieldA rfl rfl Tryz.underlying67 rfl (show SZ Tryz.prog _ 1 from sz3) (by decide)) ?_)
  refine ZL.end 14 (by decide) rfl (by kernel_rfl) rfl (Stp.store1 0 (v := .int .i64 ((Seal.amg at_ 1000 : Nat) : Int)) rfl rfl rfl sz3 rfl rfl hS rfl (by show 1 < 3; decide) ?_)
  intro w hS hpt
  change St w0 w M1 [(b6, .cells #[Go.E.str ac, .int .i64 ((Seal.amg at_ 1000 : Nat) : Int), .int .i64 no] 67 (0, 0)), (b5, .cells #[Go.E.str c, Go.E.str s, kv, .int .i64 ((Seal.amg f 1000 : Nat) : Int), .int .i64 ((Seal.amg u 1000 : Nat) : Int), .int .i64 e, .int .i64 fl] 57 (0, 0))] at hS
  refine ZL.done (by kernel_rfl) (Thn_n ?_)
  refine CW.seq ?_
  refine CW.region ?_
  refine WL.step rfl (Stp.res rfl rfl (Res.fieldA rfl rfl Tryz.underlying57 rfl (show SZ Tryz.prog _ 1 from sz9) (by decide)) ?_)
  refine WL.step rfl (Stp.res rfl rfl (Res.load1 (v := Go.E.str s) rfl rfl Tryz.underlying9 rfl (hS.ocell (i := 1) rfl rfl)) ?_)
  refine WL.step rfl (Stp.res rfl rfl (Res.move rfl rfl) ?_)
  refine WL.step rfl (Stp.res rfl rfl (Res.toF (Res.eqlS rfl rfl rfl) p1) ?_)
  refine WL.step rfl (Stp.res rfl rfl (Res.move rfl rfl) ?_)
  refine WL.skipG 4 true rfl rfl rfl rfl rfl rfl ?_
  refine WL.skipG 4 true rfl rfl rfl rfl rfl rfl ?_
  refine WL.skipG 4 true rfl rfl rfl rfl rfl rfl ?_
  refine WL.skipG 4 true rfl rfl rfl rfl rfl rfl ?_
  refine WL.skipG 4 true rfl rfl rfl rfl rfl rfl ?_
  refine WL.step rfl (Stp.res rfl rfl (Res.pickF rfl rfl rfl) ?_)
  refine WL.step rfl (Stp.res rfl rfl (Res.move rfl rfl) ?_)
  refine WL.skipG 11 true rfl rfl rfl rfl rfl rfl ?_
  refine WL.skipG 11 true rfl rfl rfl rfl rfl rfl ?_
  refine WL.skipG 11 true rfl rfl rfl rfl rfl rfl ?_
  refine WL.skipG 11 true rfl rfl rfl rfl rfl rfl ?_
  refine WL.skipG 11 true rfl rfl rfl rfl rfl rfl ?_
  refine WL.skipG 11 true rfl rfl rfl rfl rfl rfl ?_
  refine WL.step rfl (Stp.res rfl rfl (Res.pickF rfl rfl rfl) ?_)
  refine WL.step rfl (Stp.res rfl rfl (Res.move rfl rfl) ?_)
  refine WL.skipG 19 true rfl rfl rfl rfl rfl rfl ?_
  refine WL.skipG 19 true rfl rfl rfl rfl rfl rfl ?_
  refine WL.skipG 19 true rfl rfl rfl rfl rfl rfl ?_
  refine WL.skipG 19 true rfl rfl rfl rfl rfl rfl ?_
  refine WL.skipG 19 true rfl rfl rfl rfl rfl rfl ?_
  refine WL.skipG 19 true rfl rfl rfl rfl rfl rfl ?_
  refine WL.step rfl (Stp.res rfl rfl (Res.pickF rfl rfl rfl) ?_)
  refine WL.step rfl (Stp.res rfl rfl (Res.move rfl rfl) ?_)
  refine WL.skipG 27 true rfl rfl rfl rfl rfl rfl ?_
  refine WL.skipG 27 true rfl rfl rfl rfl rfl rfl ?_
  refine WL.skipG 27 true rfl rfl rfl rfl rfl rfl ?_
  refine WL.skipG 27 true rfl rfl rfl rfl rfl rfl ?_
  refine WL.skipG 27 true rfl rfl rfl rfl rfl rfl ?_
  refine WL.skipG 27 true rfl rfl rfl rfl rfl rfl ?_
  refine WL.step rfl (Stp.res rfl rfl (Res.pickF rfl rfl rfl) ?_)
  refine WL.step rfl (Stp.res rfl rfl (Res.move rfl rfl) ?_)
  refine WL.skipG 35 true rfl rfl rfl rfl rfl rfl ?_
  refine WL.skipG 35 true rfl rfl rfl rfl rfl rfl ?_
  refine WL.skipG 35 true rfl rfl rfl rfl rfl rfl ?_
  refine WL.skipG 35 true rfl rfl rfl rfl rfl rfl ?_
  refine WL.skipG 35 true rfl rfl rfl rfl rfl rfl ?_
  refine WL.skipG 35 true rfl rfl rfl rfl rfl rfl ?_
  refine WL.step rfl (Stp.res rfl rfl (Res.pickF rfl rfl rfl) ?_)
  refine WL.step rfl (Stp.res rfl rfl (Res.assign rfl rfl) ?_)
  refine WL.nil (Thn_n ?_)
  refine CW.seq ?_
  refine CW.region ?_
  refine WL.step rfl (Stp.res rfl rfl (Res.loadAll (cs := #[Go.E.str c, Go.E.str s, kv, .int .i64 ((Seal.amg f 1000 : Nat) : Int), .int .i64 ((Seal.amg u 1000 : Nat) : Int), .int .i64 e, .int .i64 fl]) rfl rfl Tryz.underlying57 rfl (sz57) (hS.get (i := 1) rfl)) ?_)
  refine WL.step rfl (Stp.res rfl rfl (Res.loadAll (cs := #[Go.E.str ac, .int .i64 ((Seal.amg at_ 1000 : Nat) : Int), .int .i64 no]) rfl rfl Tryz.underlying67 rfl (sz67) (hS.get (i := 0) rfl)) ?_)
  refine WL.step rfl (Stp.res rfl rfl (Res.move rfl rfl) ?_)
  refine WL.step rfl (Stp.res rfl rfl (Res.move rfl rfl) ?_)
  refine WL.step rfl (Stp.res rfl rfl (Res.move rfl rfl) ?_)
  refine WL.step rfl (Stp.callG (args := [_, _, _, _, _]) rfl rfl rfl cal40 rfl rfl hS (judge_ok c s ac svc kv ((Seal.amg f 1000 : Nat) : Int) ((Seal.amg u 1000 : Nat) : Int) e fl ((Seal.amg at_ 1000 : Nat) : Int) no ((Seal.amg now 1000 : Nat) : Int) ((Seal.amg k 100 : Nat) : Int) _ _ hS.on (by omega) (by omega) (by omega) (by omega) (by omega)) ?_)
  rintro _ w _ hS _ ⟨rfl, rfl⟩
  refine WL.step rfl (Stp.res rfl rfl (Res.toF (Res.eql rfl rfl rfl) hj) ?_)
  refine WL.step rfl (Stp.res rfl rfl (Res.move rfl rfl) ?_)
  refine WL.step rfl (Stp.res rfl rfl (Res.toB (Res.eqlBool rfl rfl rfl Tryz.underlying4) rfl) ?_)
  refine WL.step rfl (Stp.res rfl rfl (Res.assign rfl rfl) ?_)
  refine WL.nil (Thn_n ?_)
  refine CW.ret ?_
  exact fq_tmp rfl rfl ⟨M, ((hS.drop (i := 0) rfl hb6).drop (i := 0) rfl hb5).known hG1.1, PH.le.refl _, Fresh.refl _ _, rfl, rfl⟩

theorem law_within1 (c s ac svc : List UInt8) (kv : Value) (f u e fl at_ no now k : Int) (w0 : World) (M : PH) (hM : On M w0) (hgl : GL M) (hf : -9223372036854775808 ≤ f ∧ f ≤ 9223372036854775807) (hu : -9223372036854775808 ≤ u ∧ u ≤ 9223372036854775807) (hat_ : -9223372036854775808 ≤ at_ ∧ at_ ≤ 9223372036854775807) (hnow : -9223372036854775808 ≤ now ∧ now ≤ 9223372036854775807) (hk : -9223372036854775808 ≤ k ∧ k ≤ 9223372036854775807) (p1 : s = svc) (p2 : ¬ (c = ac)) : Ok Tryz.prog 9 #[.agg #[Go.E.str c, Go.E.str s, kv, .int .i64 f, .int .i64 u, .int .i64 e, .int .i64 fl], .agg #[Go.E.str ac, .int .i64 at_, .int .i64 no], Go.E.str svc, .int .i64 now, .int .i64 k] w0 M (fun M' r => M = M' ∧ r = .bool true) := by
  have hS := hM.st
  have hf1 := Seal.amg_lt f (n := 1000) (by omega)
  have hu1 := Seal.amg_lt u (n := 1000) (by omega)
  have ha1 := Seal.amg_lt at_ (n := 1000) (by omega)
  have hn1 := Seal.amg_lt now (n := 1000) (by omega)
  have hk1 := Seal.amg_lt k (n := 100) (by omega)
  have hjz := Tick.judge_zero (c := c) (s := s) (ac := ac) (svc := svc) (f := ((Seal.amg f 1000 : Nat) : Int)) (u := ((Seal.amg u 1000 : Nat) : Int)) (at_ := ((Seal.amg at_ 1000 : Nat) : Int)) (now := ((Seal.amg now 1000 : Nat) : Int)) (k := ((Seal.amg k 100 : Nat) : Int)) (by omega)
  have hj : ¬ (Tick.judge c s ((Seal.amg f 1000 : Nat) : Int) ((Seal.amg u 1000 : Nat) : Int) ac ((Seal.amg at_ 1000 : Nat) : Int) svc ((Seal.amg now 1000 : Nat) : Int) ((Seal.amg k 100 : Nat) : Int) = 0) := fun h => p2 (hjz.1 h).2.1
  refine enterB (l := [.agg #[Go.E.str c, Go.E.str s, kv, .int .i64 f, .int .i64 u, .int .i64 e, .int .i64 fl], .agg #[Go.E.str ac, .int .i64 at_, .int .i64 no], Go.E.str svc, .int .i64 now, .int .i64 k]) 82 Tryz.func9 rfl Tryz.ntmps9 rfl ?_
  refine CW.seq ?_
  refine CW.region ?_
  refine WL.step rfl (Stp.boxA rfl rfl rfl rfl hS ?_)
  intro b5 w hb5 hS hkp hnw
  refine WL.step rfl (Stp.boxA rfl rfl rfl rfl hS ?_)
  intro b6 w hb6 hS hkp hnw
  refine WL.step rfl (Stp.res rfl rfl (Res.assign rfl rfl) ?_)
  refine WL.nil (Thn_n ?_)
  refine CW.seq ?_
  refine CW.seq ?_
  refine CW.region ?_
  refine WL.step rfl (Stp.callG (args := []) rfl rfl rfl cal39 rfl rfl hS (works20_ok _ _ hS.on hgl) ?_)
  rintro _ w M1 hS hG1 rfl
  refine WL.step rfl (Stp.res rfl rfl (Res.not rfl rfl rfl) ?_)
  refine WL.nil (Thn_n ?_)
  refine CW.condF rfl ?_
  refine CW.skip (Thn_n ?_)
  refine CW.seq ?_
  refine CW.region ?_
  refine WL.step rfl (Stp.res rfl rfl (Res.move rfl rfl) ?_)
  refine WL.step rfl (Stp.callA (args := [_, _]) rfl rfl rfl cal42 rfl rfl (among_ok now 1000 (by omega) _) ?_)
  refine WL.step rfl (Stp.res rfl rfl (Res.move rfl rfl) ?_)
  refine WL.step rfl (Stp.callA (args := [_, _]) rfl rfl rfl cal42 rfl rfl (among_ok k 100 (by omega) _) ?_)
  refine WL.step rfl (Stp.res rfl rfl (Res.assign rfl rfl) ?_)
  refine WL.step rfl (Stp.res rfl rfl (Res.assign rfl rfl) ?_)
  refine WL.nil (Thn_n ?_)
  refine CW.seq ?_
  have hS := hS.drew
  have hK0 := And.intro (hS.get (i := 1) rfl) (hS.get (i := 0) rfl)
  refine CW.last (fun w => w.heap[b5]? = some (.cells #[Go.E.str c, Go.E.str s, kv, .int .i64 f, .int .i64 u, .int .i64 e, .int .i64 fl] 57 (0, 0)) ∧ w.heap[b6]? = some (.cells #[Go.E.str ac, .int .i64 at_, .int .i64 no] 67 (0, 0))) [10, 11, 12, 13, 14] mixed ?_
  refine ZL.take 0 rfl (by kernel_rfl) rfl rfl rfl hK0 (fun w hK => Res.fieldA rfl rfl Tryz.underlying57 rfl (show SZ Tryz.prog _ 1 from sz3) (by decide)) ?_
  refine ZL.take 1 rfl (by kernel_rfl) rfl rfl rfl hK0 (fun w hK => Res.load1 (v := .int .i64 f) rfl rfl Tryz.underlying3 rfl (w := w) (by rw [cell_of hK.1]; rfl)) ?_
  refine ZL.take 3 rfl (by kernel_rfl) rfl rfl rfl hK0 (fun w hK => Res.fieldA rfl rfl Tryz.underlying57 rfl (show SZ Tryz.prog _ 1 from sz3) (by decide)) ?_
  refine ZL.take 4 rfl (by kernel_rfl) rfl rfl rfl hK0 (fun w hK => Res.load1 (v := .int .i64 u) rfl rfl Tryz.underlying3 rfl (w := w) (by rw [cell_of hK.1]; rfl)) ?_
  refine ZL.take 6 rfl (by kernel_rfl) rfl rfl rfl hK0 (fun w hK => Res.fieldA rfl rfl Tryz.underlying67 rfl (show SZ Tryz.prog _ 1 from sz3) (by decide)) ?_
  refine ZL.take 7 rfl (by kernel_rfl) rfl rfl rfl hK0 (fun w hK => Res.load1 (v := .int .i64 at_) rfl rfl Tryz.underlying3 rfl (w := w) (by rw [cell_of hK.2]; rfl)) ?_
  refine ZL.one 2 rfl (by kernel_rfl) rfl (Stp.callA (args := [_, _]) rfl rfl rfl cal42 rfl rfl (among_ok f 1000 (by omega) _) ?_)
  skip
  refine ⟨hK0, ?_⟩
  refine ZL.take 9 rfl (by kernel_rfl) rfl rfl rfl hK0 (fun w hK => Res.fieldA rfl rfl Tryz.underlying57 rfl (show SZ Tryz.prog _ 1 from sz3) (by decide)) ?_
  refine ZL.one 5 rfl (by kernel_rfl) rfl (Stp.callA (args := [_, _]) rfl rfl rfl cal42 rfl rfl (among_ok u 1000 (by omega) _) ?_)
  skip
  refine ⟨hK0, ?_⟩
  refine ZL.one 8 rfl (by kernel_rfl) rfl (Stp.callA (args := [_, _]) rfl rfl rfl cal42 rfl rfl (among_ok at_ 1000 (by omega) _) ?_)
  skip
  refine ⟨hK0, ?_⟩
  refine ZL.end 10 (by decide) rfl (by kernel_rfl) rfl (Stp.store1 1 (v := .int .i64 ((Seal.amg f 1000 : Nat) : Int)) rfl rfl rfl sz3 rfl rfl hS rfl (by show 3 < 7; decide) ?_)
  intro w hS hpt
  refine ZL.end 11 (by decide) rfl (by kernel_rfl) rfl (Stp.res rfl rfl (Res.fieldA rfl rfl Tryz.underlying57 rfl (show SZ Tryz.prog _ 1 from sz3) (by decide)) ?_)
  refine ZL.end 12 (by decide) rfl (by kernel_rfl) rfl (Stp.store1 1 (v := .int .i64 ((Seal.amg u 1000 : Nat) : Int)) rfl rfl rfl sz3 rfl rfl hS rfl (by show 4 < 7; decide) ?_)
  intro w hS hpt
  refine ZL.end 13 (by decide) rfl (by kernel_rfl) rfl (Stp.res rfl rfl (Res.fieldA rfl rfl Tryz.underlying67 rfl (show SZ Tryz.prog _ 1 from sz3) (by decide)) ?_)
  refine ZL.end 14 (by decide) rfl (by kernel_rfl) rfl (Stp.store1 0 (v := .int .i64 ((Seal.amg at_ 1000 : Nat) : Int)) rfl rfl rfl sz3 rfl rfl hS rfl (by show 1 < 3; decide) ?_)
  intro w hS hpt
  change St w0 w M1 [(b6, .cells #[Go.E.str ac, .int .i64 ((Seal.amg at_ 1000 : Nat) : Int), .int .i64 no] 67 (0, 0)), (b5, .cells #[Go.E.str c, Go.E.str s, kv, .int .i64 ((Seal.amg f 1000 : Nat) : Int), .int .i64 ((Seal.amg u 1000 : Nat) : Int), .int .i64 e, .int .i64 fl] 57 (0, 0))] at hS
  refine ZL.done (by kernel_rfl) (Thn_n ?_)
  refine CW.seq ?_
  refine CW.region ?_
  refine WL.step rfl (Stp.res rfl rfl (Res.fieldA rfl rfl Tryz.underlying57 rfl (show SZ Tryz.prog _ 1 from sz9) (by decide)) ?_)
  refine WL.step rfl (Stp.res rfl rfl (Res.load1 (v := Go.E.str s) rfl rfl Tryz.underlying9 rfl (hS.ocell (i := 1) rfl rfl)) ?_)
  refine WL.step rfl (Stp.res rfl rfl (Res.move rfl rfl) ?_)
  refine WL.step rfl (Stp.res rfl rfl (Res.to (Res.eqlS rfl rfl rfl) p1) ?_)
  refine WL.step rfl (Stp.res rfl rfl (Res.move rfl rfl) ?_)
  refine WL.stepG 4 true rfl rfl rfl rfl (Stp.res rfl rfl (Res.fieldA rfl rfl Tryz.underlying57 rfl (show SZ Tryz.prog _ 1 from sz9) (by decide)) ?_)
  refine WL.stepG 4 true rfl rfl rfl rfl (Stp.res rfl rfl (Res.load1 (v := Go.E.str c) rfl rfl Tryz.underlying9 rfl (hS.ocell (i := 1) rfl rfl)) ?_)
  refine WL.stepG 4 true rfl rfl rfl rfl (Stp.res rfl rfl (Res.fieldA rfl rfl Tryz.underlying67 rfl (show SZ Tryz.prog _ 1 from sz9) (by decide)) ?_)
  refine WL.stepG 4 true rfl rfl rfl rfl (Stp.res rfl rfl (Res.load1 (v := Go.E.str ac) rfl rfl Tryz.underlying9 rfl (hS.ocell (i := 0) rfl rfl)) ?_)
  refine WL.stepG 4 true rfl rfl rfl rfl (Stp.res rfl rfl (Res.toF (Res.eqlS rfl rfl rfl) p2) ?_)
  refine WL.step rfl (Stp.res rfl rfl (Res.pickT rfl rfl rfl) ?_)
  refine WL.step rfl (Stp.res rfl rfl (Res.move rfl rfl) ?_)
  refine WL.skipG 11 true rfl rfl rfl rfl rfl rfl ?_
  refine WL.skipG 11 true rfl rfl rfl rfl rfl rfl ?_
  refine WL.skipG 11 true rfl rfl rfl rfl rfl rfl ?_
  refine WL.skipG 11 true rfl rfl rfl rfl rfl rfl ?_
  refine WL.skipG 11 true rfl rfl rfl rfl rfl rfl ?_
  refine WL.skipG 11 true rfl rfl rfl rfl rfl rfl ?_
  refine WL.step rfl (Stp.res rfl rfl (Res.pickF rfl rfl rfl) ?_)
  refine WL.step rfl (Stp.res rfl rfl (Res.move rfl rfl) ?_)
  refine WL.skipG 19 true rfl rfl rfl rfl rfl rfl ?_
  refine WL.skipG 19 true rfl rfl rfl rfl rfl rfl ?_
  refine WL.skipG 19 true rfl rfl rfl rfl rfl rfl ?_
  refine WL.skipG 19 true rfl rfl rfl rfl rfl rfl ?_
  refine WL.skipG 19 true rfl rfl rfl rfl rfl rfl ?_
  refine WL.skipG 19 true rfl rfl rfl rfl rfl rfl ?_
  refine WL.step rfl (Stp.res rfl rfl (Res.pickF rfl rfl rfl) ?_)
  refine WL.step rfl (Stp.res rfl rfl (Res.move rfl rfl) ?_)
  refine WL.skipG 27 true rfl rfl rfl rfl rfl rfl ?_
  refine WL.skipG 27 true rfl rfl rfl rfl rfl rfl ?_
  refine WL.skipG 27 true rfl rfl rfl rfl rfl rfl ?_
  refine WL.skipG 27 true rfl rfl rfl rfl rfl rfl ?_
  refine WL.skipG 27 true rfl rfl rfl rfl rfl rfl ?_
  refine WL.skipG 27 true rfl rfl rfl rfl rfl rfl ?_
  refine WL.step rfl (Stp.res rfl rfl (Res.pickF rfl rfl rfl) ?_)
  refine WL.step rfl (Stp.res rfl rfl (Res.move rfl rfl) ?_)
  refine WL.skipG 35 true rfl rfl rfl rfl rfl rfl ?_
  refine WL.skipG 35 true rfl rfl rfl rfl rfl rfl ?_
  refine WL.skipG 35 true rfl rfl rfl rfl rfl rfl ?_
  refine WL.skipG 35 true rfl rfl rfl rfl rfl rfl ?_
  refine WL.skipG 35 true rfl rfl rfl rfl rfl rfl ?_
  refine WL.skipG 35 true rfl rfl rfl rfl rfl rfl ?_
  refine WL.step rfl (Stp.res rfl rfl (Res.pickF rfl rfl rfl) ?_)
  refine WL.step rfl (Stp.res rfl rfl (Res.assign rfl rfl) ?_)
  refine WL.nil (Thn_n ?_)
  refine CW.seq ?_
  refine CW.region ?_
  refine WL.step rfl (Stp.res rfl rfl (Res.loadAll (cs := #[Go.E.str c, Go.E.str s, kv, .int .i64 ((Seal.amg f 1000 : Nat) : Int), .int .i64 ((Seal.amg u 1000 : Nat) : Int), .int .i64 e, .int .i64 fl]) rfl rfl Tryz.underlying57 rfl (sz57) (hS.get (i := 1) rfl)) ?_)
  refine WL.step rfl (Stp.res rfl rfl (Res.loadAll (cs := #[Go.E.str ac, .int .i64 ((Seal.amg at_ 1000 : Nat) : Int), .int .i64 no]) rfl rfl Tryz.underlying67 rfl (sz67) (hS.get (i := 0) rfl)) ?_)
  refine WL.step rfl (Stp.res rfl rfl (Res.move rfl rfl) ?_)
  refine WL.step rfl (Stp.res rfl rfl (Res.move rfl rfl) ?_)
  refine WL.step rfl (Stp.res rfl rfl (Res.move rfl rfl) ?_)
  refine WL.step rfl (Stp.callG (args := [_, _, _, _, _]) rfl rfl rfl cal40 rfl rfl hS (judge_ok c s ac svc kv ((Seal.amg f 1000 : Nat) : Int) ((Seal.amg u 1000 : Nat) : Int) e fl ((Seal.amg at_ 1000 : Nat) : Int) no ((Seal.amg now 1000 : Nat) : Int) ((Seal.amg k 100 : Nat) : Int) _ _ hS.on (by omega) (by omega) (by omega) (by omega) (by omega)) ?_)
  rintro _ w _ hS _ ⟨rfl, rfl⟩
  refine WL.step rfl (Stp.res rfl rfl (Res.toF (Res.eql rfl rfl rfl) hj) ?_)
  refine WL.step rfl (Stp.res rfl rfl (Res.move rfl rfl) ?_)
  refine WL.step rfl (Stp.res rfl rfl (Res.toB (Res.eqlBool rfl rfl rfl Tryz.underlying4) rfl) ?_)
  refine WL.step rfl (Stp.res rfl rfl (Res.assign rfl rfl) ?_)
  refine WL.nil (Thn_n ?_)
  refine CW.ret ?_
  exact fq_tmp rfl rfl ⟨M, ((hS.drop (i := 0) rfl hb6).drop (i := 0) rfl hb5).known hG1.1, PH.le.refl _, Fresh.refl _ _, rfl, rfl⟩

theorem law_within2 (c s ac svc : List UInt8) (kv : Value) (f u e fl at_ no now k : Int) (w0 : World) (M : PH) (hM : On M w0) (hgl : GL M) (hf : -9223372036854775808 ≤ f ∧ f ≤ 9223372036854775807) (hu : -9223372036854775808 ≤ u ∧ u ≤ 9223372036854775807) (hat_ : -9223372036854775808 ≤ at_ ∧ at_ ≤ 9223372036854775807) (hnow : -9223372036854775808 ≤ now ∧ now ≤ 9223372036854775807) (hk : -9223372036854775808 ≤ k ∧ k ≤ 9223372036854775807) (p1 : s = svc) (p2 : c = ac) (p3 : ¬ (((Seal.amg at_ 1000 : Nat) : Int) - ((Seal.amg now 1000 : Nat) : Int) ≤ ((Seal.amg k 100 : Nat) : Int))) : Ok Tryz.prog 9 #[.agg #[Go.E.str c, Go.E.str s, kv, .int .i64 f, .int .i64 u, .int .i64 e, .int .i64 fl], .agg #[Go.E.str ac, .int .i64 at_, .int .i64 no], Go.E.str svc, .int .i64 now, .int .i64 k] w0 M (fun M' r => M = M' ∧ r = .bool true) := by
  have hS := hM.st
  have hf1 := Seal.amg_lt f (n := 1000) (by omega)
  have hu1 := Seal.amg_lt u (n := 1000) (by omega)
  have ha1 := Seal.amg_lt at_ (n := 1000) (by omega)
  have hn1 := Seal.amg_lt now (n := 1000) (by omega)
  have hk1 := Seal.amg_lt k (n := 100) (by omega)
  have hjz := Tick.judge_zero (c := c) (s := s) (ac := ac) (svc := svc) (f := ((Seal.amg f 1000 : Nat) : Int)) (u := ((Seal.amg u 1000 : Nat) : Int)) (at_ := ((Seal.amg at_ 1000 : Nat) : Int)) (now := ((Seal.amg now 1000 : Nat) : Int)) (k := ((Seal.amg k 100 : Nat) : Int)) (by omega)
  have hj : ¬ (Tick.judge c s ((Seal.amg f 1000 : Nat) : Int) ((Seal.amg u 1000 : Nat) : Int) ac ((Seal.amg at_ 1000 : Nat) : Int) svc ((Seal.amg now 1000 : Nat) : Int) ((Seal.amg k 100 : Nat) : Int) = 0) := fun h => p3 (hjz.1 h).2.2.1
  refine enterB (l := [.agg #[Go.E.str c, Go.E.str s, kv, .int .i64 f, .int .i64 u, .int .i64 e, .int .i64 fl], .agg #[Go.E.str ac, .int .i64 at_, .int .i64 no], Go.E.str svc, .int .i64 now, .int .i64 k]) 82 Tryz.func9 rfl Tryz.ntmps9 rfl ?_
  refine CW.seq ?_
  refine CW.region ?_
  refine WL.step rfl (Stp.boxA rfl rfl rfl rfl hS ?_)
  intro b5 w hb5 hS hkp hnw
  refine WL.step rfl (Stp.boxA rfl rfl rfl rfl hS ?_)
  intro b6 w hb6 hS hkp hnw
  refine WL.step rfl (Stp.res rfl rfl (Res.assign rfl rfl) ?_)
  refine WL.nil (Thn_n ?_)
  refine CW.seq ?_
  refine CW.seq ?_
  refine CW.region ?_
  refine WL.step rfl (Stp.callG (args := []) rfl rfl rfl cal39 rfl rfl hS (works20_ok _ _ hS.on hgl) ?_)
  rintro _ w M1 hS hG1 rfl
  refine WL.step rfl (Stp.res rfl rfl (Res.not rfl rfl rfl) ?_)
  refine WL.nil (Thn_n ?_)
  refine CW.condF rfl ?_
  refine CW.skip (Thn_n ?_)
  refine CW.seq ?_
  refine CW.region ?_
  refine WL.step rfl (Stp.res rfl rfl (Res.move rfl rfl) ?_)
  refine WL.step rfl (Stp.callA (args := [_, _]) rfl rfl rfl cal42 rfl rfl (among_ok now 1000 (by omega) _) ?_)
  refine WL.step rfl (Stp.res rfl rfl (Res.move rfl rfl) ?_)
  refine WL.step rfl (Stp.callA (args := [_, _]) rfl rfl rfl cal42 rfl rfl (among_ok k 100 (by omega) _) ?_)
  refine WL.step rfl (Stp.res rfl rfl (Res.assign rfl rfl) ?_)
  refine WL.step rfl (Stp.res rfl rfl (Res.assign rfl rfl) ?_)
  refine WL.nil (Thn_n ?_)
  refine CW.seq ?_
  have hS := hS.drew
  have hK0 := And.intro (hS.get (i := 1) rfl) (hS.get (i := 0) rfl)
  refine CW.last (fun w => w.heap[b5]? = some (.cells #[Go.E.str c, Go.E.str s, kv, .int .i64 f, .int .i64 u, .int .i64 e, .int .i64 fl] 57 (0, 0)) ∧ w.heap[b6]? = some (.cells #[Go.E.str ac, .int .i64 at_, .int .i64 no] 67 (0, 0))) [10, 11, 12, 13, 14] mixed ?_
  refine ZL.take 0 rfl (by kernel_rfl) rfl rfl rfl hK0 (fun w hK => Res.fieldA rfl rfl Tryz.underlying57 rfl (show SZ Tryz.prog _ 1 from sz3) (by decide)) ?_
  refine ZL.take 1 rfl (by kernel_rfl) rfl rfl rfl hK0 (fun w hK => Res.load1 (v := .int .i64 f) rfl rfl Tryz.underlying3 rfl (w := w) (by rw [cell_of hK.1]; rfl)) ?_
  refine ZL.take 3 rfl (by kernel_rfl) rfl rfl rfl hK0 (fun w hK => Res.fieldA rfl rfl Tryz.underlying57 rfl (show SZ Tryz.prog _ 1 from sz3) (by decide)) ?_
  refine ZL.take 4 rfl (by kernel_rfl) rfl rfl rfl hK0 (fun w hK => Res.load1 (v := .int .i64 u) rfl rfl Tryz.underlying3 rfl (w := w) (by rw [cell_of hK.1]; rfl)) ?_
  refine ZL.take 6 rfl (by kernel_rfl) rfl rfl rfl hK0 (fun w hK => Res.fieldA rfl rfl Tryz.underlying67 rfl (show SZ Tryz.prog _ 1 from sz3) (by decide)) ?_
  refine ZL.take 7 rfl (by kernel_rfl) rfl rfl rfl hK0 (fun w hK => Res.load1 (v := .int .i64 at_) rfl rfl Tryz.underlying3 rfl (w := w) (by rw [cell_of hK.2]; rfl)) ?_
  refine ZL.one 2 rfl (by kernel_rfl) rfl (Stp.callA (args := [_, _]) rfl rfl rfl cal42 rfl rfl (among_ok f 1000 (by omega) _) ?_)
  skip
  refine ⟨hK0, ?_⟩
  refine ZL.take 9 rfl (by kernel_rfl) rfl rfl rfl hK0 (fun w hK => Res.fieldA rfl rfl Tryz.underlying57 rfl (show SZ Tryz.prog _ 1 from sz3) (by decide)) ?_
  refine ZL.one 5 rfl (by kernel_rfl) rfl (Stp.callA (args := [_, _]) rfl rfl rfl cal42 rfl rfl (among_ok u 1000 (by omega) _) ?_)
  skip
  refine ⟨hK0, ?_⟩
  refine ZL.one 8 rfl (by kernel_rfl) rfl (Stp.callA (args := [_, _]) rfl rfl rfl cal42 rfl rfl (among_ok at_ 1000 (by omega) _) ?_)
  skip
  refine ⟨hK0, ?_⟩
  refine ZL.end 10 (by decide) rfl (by kernel_rfl) rfl (Stp.store1 1 (v := .int .i64 ((Seal.amg f 1000 : Nat) : Int)) rfl rfl rfl sz3 rfl rfl hS rfl (by show 3 < 7; decide) ?_)
  intro w hS hpt
  refine ZL.end 11 (by decide) rfl (by kernel_rfl) rfl (Stp.res rfl rfl (Res.fieldA rfl rfl Tryz.underlying57 rfl (show SZ Tryz.prog _ 1 from sz3) (by decide)) ?_)
  refine ZL.end 12 (by decide) rfl (by kernel_rfl) rfl (Stp.store1 1 (v := .int .i64 ((Seal.amg u 1000 : Nat) : Int)) rfl rfl rfl sz3 rfl rfl hS rfl (by show 4 < 7; decide) ?_)
  intro w hS hpt
  refine ZL.end 13 (by decide) rfl (by kernel_rfl) rfl (Stp.res rfl rfl (Res.fieldA rfl rfl Tryz.underlying67 rfl (show SZ Tryz.prog _ 1 from sz3) (by decide)) ?_)
  refine ZL.end 14 (by decide) rfl (by kernel_rfl) rfl (Stp.store1 0 (v := .int .i64 ((Seal.amg at_ 1000 : Nat) : Int)) rfl rfl rfl sz3 rfl rfl hS rfl (by show 1 < 3; decide) ?_)
  intro w hS hpt
  change St w0 w M1 [(b6, .cells #[Go.E.str ac, .int .i64 ((Seal.amg at_ 1000 : Nat) : Int), .int .i64 no] 67 (0, 0)), (b5, .cells #[Go.E.str c, Go.E.str s, kv, .int .i64 ((Seal.amg f 1000 : Nat) : Int), .int .i64 ((Seal.amg u 1000 : Nat) : Int), .int .i64 e, .int .i64 fl] 57 (0, 0))] at hS
  refine ZL.done (by kernel_rfl) (Thn_n ?_)
  refine CW.seq ?_
  refine CW.region ?_
  refine WL.step rfl (Stp.res rfl rfl (Res.fieldA rfl rfl Tryz.underlying57 rfl (show SZ Tryz.prog _ 1 from sz9) (by decide)) ?_)
  refine WL.step rfl (Stp.res rfl rfl (Res.load1 (v := Go.E.str s) rfl rfl Tryz.underlying9 rfl (hS.ocell (i := 1) rfl rfl)) ?_)
  refine WL.step rfl (Stp.res rfl rfl (Res.move rfl rfl) ?_)
  refine WL.step rfl (Stp.res rfl rfl (Res.to (Res.eqlS rfl rfl rfl) p1) ?_)
  refine WL.step rfl (Stp.res rfl rfl (Res.move rfl rfl) ?_)
  refine WL.stepG 4 true rfl rfl rfl rfl (Stp.res rfl rfl (Res.fieldA rfl rfl Tryz.underlying57 rfl (show SZ Tryz.prog _ 1 from sz9) (by decide)) ?_)
  refine WL.stepG 4 true rfl rfl rfl rfl (Stp.res rfl rfl (Res.load1 (v := Go.E.str c) rfl rfl Tryz.underlying9 rfl (hS.ocell (i := 1) rfl rfl)) ?_)
  refine WL.stepG 4 true rfl rfl rfl rfl (Stp.res rfl rfl (Res.fieldA rfl rfl Tryz.underlying67 rfl (show SZ Tryz.prog _ 1 from sz9) (by decide)) ?_)
  refine WL.stepG 4 true rfl rfl rfl rfl (Stp.res rfl rfl (Res.load1 (v := Go.E.str ac) rfl rfl Tryz.underlying9 rfl (hS.ocell (i := 0) rfl rfl)) ?_)
  refine WL.stepG 4 true rfl rfl rfl rfl (Stp.res rfl rfl (Res.to (Res.eqlS rfl rfl rfl) p2) ?_)
  refine WL.step rfl (Stp.res rfl rfl (Res.pickT rfl rfl rfl) ?_)
  refine WL.step rfl (Stp.res rfl rfl (Res.move rfl rfl) ?_)
  refine WL.stepG 11 true rfl rfl rfl rfl (Stp.res rfl rfl (Res.fieldA rfl rfl Tryz.underlying67 rfl (show SZ Tryz.prog _ 1 from sz3) (by decide)) ?_)
  refine WL.stepG 11 true rfl rfl rfl rfl (Stp.res rfl rfl (Res.load1 (v := .int .i64 ((Seal.amg at_ 1000 : Nat) : Int)) rfl rfl Tryz.underlying3 rfl (hS.ocell (i := 0) rfl rfl)) ?_)
  refine WL.stepG 11 true rfl rfl rfl rfl (Stp.res rfl rfl (Res.move rfl rfl) ?_)
  refine WL.stepG 11 true rfl rfl rfl rfl (Stp.res rfl rfl (Res.sub rfl rfl rfl (by omega)) ?_)
  refine WL.stepG 11 true rfl rfl rfl rfl (Stp.res rfl rfl (Res.move rfl rfl) ?_)
  refine WL.stepG 11 true rfl rfl rfl rfl (Stp.res rfl rfl (Res.toF (Res.leq rfl rfl rfl) p3) ?_)
  refine WL.step rfl (Stp.res rfl rfl (Res.pickT rfl rfl rfl) ?_)
  refine WL.step rfl (Stp.res rfl rfl (Res.move rfl rfl) ?_)
  refine WL.skipG 19 true rfl rfl rfl rfl rfl rfl ?_
  refine WL.skipG 19 true rfl rfl rfl rfl rfl rfl ?_
  refine WL.skipG 19 true rfl rfl rfl rfl rfl rfl ?_
  refine WL.skipG 19 true rfl rfl rfl rfl rfl rfl ?_
  refine WL.skipG 19 true rfl rfl rfl rfl rfl rfl ?_
  refine WL.skipG 19 true rfl rfl rfl rfl rfl rfl ?_
  refine WL.step rfl (Stp.res rfl rfl (Res.pickF rfl rfl rfl) ?_)
  refine WL.step rfl (Stp.res rfl rfl (Res.move rfl rfl) ?_)
  refine WL.skipG 27 true rfl rfl rfl rfl rfl rfl ?_
  refine WL.skipG 27 true rfl rfl rfl rfl rfl rfl ?_
  refine WL.skipG 27 true rfl rfl rfl rfl rfl rfl ?_
  refine WL.skipG 27 true rfl rfl rfl rfl rfl rfl ?_
  refine WL.skipG 27 true rfl rfl rfl rfl rfl rfl ?_
  refine WL.skipG 27 true rfl rfl rfl rfl rfl rfl ?_
  refine WL.step rfl (Stp.res rfl rfl (Res.pickF rfl rfl rfl) ?_)
  refine WL.step rfl (Stp.res rfl rfl (Res.move rfl rfl) ?_)
  refine WL.skipG 35 true rfl rfl rfl rfl rfl rfl ?_
  refine WL.skipG 35 true rfl rfl rfl rfl rfl rfl ?_
  refine WL.skipG 35 true rfl rfl rfl rfl rfl rfl ?_
  refine WL.skipG 35 true rfl rfl rfl rfl rfl rfl ?_
  refine WL.skipG 35 true rfl rfl rfl rfl rfl rfl ?_
  refine WL.skipG 35 true rfl rfl rfl rfl rfl rfl ?_
  refine WL.step rfl (Stp.res rfl rfl (Res.pickF rfl rfl rfl) ?_)
  refine WL.step rfl (Stp.res rfl rfl (Res.assign rfl rfl) ?_)
  refine WL.nil (Thn_n ?_)
  refine CW.seq ?_
  refine CW.region ?_
  refine WL.step rfl (Stp.res rfl rfl (Res.loadAll (cs := #[Go.E.str c, Go.E.str s, kv, .int .i64 ((Seal.amg f 1000 : Nat) : Int), .int .i64 ((Seal.amg u 1000 : Nat) : Int), .int .i64 e, .int .i64 fl]) rfl rfl Tryz.underlying57 rfl (sz57) (hS.get (i := 1) rfl)) ?_)
  refine WL.step rfl (Stp.res rfl rfl (Res.loadAll (cs := #[Go.E.str ac, .int .i64 ((Seal.amg at_ 1000 : Nat) : Int), .int .i64 no]) rfl rfl Tryz.underlying67 rfl (sz67) (hS.get (i := 0) rfl)) ?_)
  refine WL.step rfl (Stp.res rfl rfl (Res.move rfl rfl) ?_)
  refine WL.step rfl (Stp.res rfl rfl (Res.move rfl rfl) ?_)
  refine WL.step rfl (Stp.res rfl rfl (Res.move rfl rfl) ?_)
  refine WL.step rfl (Stp.callG (args := [_, _, _, _, _]) rfl rfl rfl cal40 rfl rfl hS (judge_ok c s ac svc kv ((Seal.amg f 1000 : Nat) : Int) ((Seal.amg u 1000 : Nat) : Int) e fl ((Seal.amg at_ 1000 : Nat) : Int) no ((Seal.amg now 1000 : Nat) : Int) ((Seal.amg k 100 : Nat) : Int) _ _ hS.on (by omega) (by omega) (by omega) (by omega) (by omega)) ?_)
  rintro _ w _ hS _ ⟨rfl, rfl⟩
  refine WL.step rfl (Stp.res rfl rfl (Res.toF (Res.eql rfl rfl rfl) hj) ?_)
  refine WL.step rfl (Stp.res rfl rfl (Res.move rfl rfl) ?_)
  refine WL.step rfl (Stp.res rfl rfl (Res.toB (Res.eqlBool rfl rfl rfl Tryz.underlying4) rfl) ?_)
  refine WL.step rfl (Stp.res rfl rfl (Res.assign rfl rfl) ?_)
  refine WL.nil (Thn_n ?_)
  refine CW.ret ?_
  exact fq_tmp rfl rfl ⟨M, ((hS.drop (i := 0) rfl hb6).drop (i := 0) rfl hb5).known hG1.1, PH.le.refl _, Fresh.refl _ _, rfl, rfl⟩

theorem law_within3 (c s ac svc : List UInt8) (kv : Value) (f u e fl at_ no now k : Int) (w0 : World) (M : PH) (hM : On M w0) (hgl : GL M) (hf : -9223372036854775808 ≤ f ∧ f ≤ 9223372036854775807) (hu : -9223372036854775808 ≤ u ∧ u ≤ 9223372036854775807) (hat_ : -9223372036854775808 ≤ at_ ∧ at_ ≤ 9223372036854775807) (hnow : -9223372036854775808 ≤ now ∧ now ≤ 9223372036854775807) (hk : -9223372036854775808 ≤ k ∧ k ≤ 9223372036854775807) (p1 : s = svc) (p2 : c = ac) (p3 : ((Seal.amg at_ 1000 : Nat) : Int) - ((Seal.amg now 1000 : Nat) : Int) ≤ ((Seal.amg k 100 : Nat) : Int)) (p4 : ¬ (((Seal.amg now 1000 : Nat) : Int) - ((Seal.amg at_ 1000 : Nat) : Int) ≤ ((Seal.amg k 100 : Nat) : Int))) : Ok Tryz.prog 9 #[.agg #[Go.E.str c, Go.E.str s, kv, .int .i64 f, .int .i64 u, .int .i64 e, .int .i64 fl], .agg #[Go.E.str ac, .int .i64 at_, .int .i64 no], Go.E.str svc, .int .i64 now, .int .i64 k] w0 M (fun M' r => M = M' ∧ r = .bool true) := by
  have hS := hM.st
  have hf1 := Seal.amg_lt f (n := 1000) (by omega)
  have hu1 := Seal.amg_lt u (n := 1000) (by omega)
  have ha1 := Seal.amg_lt at_ (n := 1000) (by omega)
  have hn1 := Seal.amg_lt now (n := 1000) (by omega)
  have hk1 := Seal.amg_lt k (n := 100) (by omega)
  have hjz := Tick.judge_zero (c := c) (s := s) (ac := ac) (svc := svc) (f := ((Seal.amg f 1000 : Nat) : Int)) (u := ((Seal.amg u 1000 : Nat) : Int)) (at_ := ((Seal.amg at_ 1000 : Nat) : Int)) (now := ((Seal.amg now 1000 : Nat) : Int)) (k := ((Seal.amg k 100 : Nat) : Int)) (by omega)
  have hj : ¬ (Tick.judge c s ((Seal.amg f 1000 : Nat) : Int) ((Seal.amg u 1000 : Nat) : Int) ac ((Seal.amg at_ 1000 : Nat) : Int) svc ((Seal.amg now 1000 : Nat) : Int) ((Seal.amg k 100 : Nat) : Int) = 0) := fun h => p4 (hjz.1 h).2.2.2.1
  refine enterB (l := [.agg #[Go.E.str c, Go.E.str s, kv, .int .i64 f, .int .i64 u, .int .i64 e, .int .i64 fl], .agg #[Go.E.str ac, .int .i64 at_, .int .i64 no], Go.E.str svc, .int .i64 now, .int .i64 k]) 82 Tryz.func9 rfl Tryz.ntmps9 rfl ?_
  refine CW.seq ?_
  refine CW.region ?_
  refine WL.step rfl (Stp.boxA rfl rfl rfl rfl hS ?_)
  intro b5 w hb5 hS hkp hnw
  refine WL.step rfl (Stp.boxA rfl rfl rfl rfl hS ?_)
  intro b6 w hb6 hS hkp hnw
  refine WL.step rfl (Stp.res rfl rfl (Res.assign rfl rfl) ?_)
  refine WL.nil (Thn_n ?_)
  refine CW.seq ?_
  refine CW.seq ?_
  refine CW.region ?_
  refine WL.step rfl (Stp.callG (args := []) rfl rfl rfl cal39 rfl rfl hS (works20_ok _ _ hS.on hgl) ?_)
  rintro _ w M1 hS hG1 rfl
  refine WL.step rfl (Stp.res rfl rfl (Res.not rfl rfl rfl) ?_)
  refine WL.nil (Thn_n ?_)
  refine CW.condF rfl ?_
  refine CW.skip (Thn_n ?_)
  refine CW.seq ?_
  refine CW.region ?_
  refine WL.step rfl (Stp.res rfl rfl (Res.move rfl rfl) ?_)
  refine WL.step rfl (Stp.callA (args := [_, _]) rfl rfl rfl cal42 rfl rfl (among_ok now 1000 (by omega) _) ?_)
  refine WL.step rfl (Stp.res rfl rfl (Res.move rfl rfl) ?_)
  refine WL.step rfl (Stp.callA (args := [_, _]) rfl rfl rfl cal42 rfl rfl (among_ok k 100 (by omega) _) ?_)
  refine WL.step rfl (Stp.res rfl rfl (Res.assign rfl rfl) ?_)
  refine WL.step rfl (Stp.res rfl rfl (Res.assign rfl rfl) ?_)
  refine WL.nil (Thn_n ?_)
  refine CW.seq ?_
  have hS := hS.drew
  have hK0 := And.intro (hS.get (i := 1) rfl) (hS.get (i := 0) rfl)
  refine CW.last (fun w => w.heap[b5]? = some (.cells #[Go.E.str c, Go.E.str s, kv, .int .i64 f, .int .i64 u, .int .i64 e, .int .i64 fl] 57 (0, 0)) ∧ w.heap[b6]? = some (.cells #[Go.E.str ac, .int .i64 at_, .int .i64 no] 67 (0, 0))) [10, 11, 12, 13, 14] mixed ?_
  refine ZL.take 0 rfl (by kernel_rfl) rfl rfl rfl hK0 (fun w hK => Res.fieldA rfl rfl Tryz.underlying57 rfl (show SZ Tryz.prog _ 1 from sz3) (by decide)) ?_
  refine ZL.take 1 rfl (by kernel_rfl) rfl rfl rfl hK0 (fun w hK => Res.load1 (v := .int .i64 f) rfl rfl Tryz.underlying3 rfl (w := w) (by rw [cell_of hK.1]; rfl)) ?_
  refine ZL.take 3 rfl (by kernel_rfl) rfl rfl rfl hK0 (fun w hK => Res.fieldA rfl rfl Tryz.underlying57 rfl (show SZ Tryz.prog _ 1 from sz3) (by decide)) ?_
  refine ZL.take 4 rfl (by kernel_rfl) rfl rfl rfl hK0 (fun w hK => Res.load1 (v := .int .i64 u) rfl rfl Tryz.underlying3 rfl (w := w) (by rw [cell_of hK.1]; rfl)) ?_
  refine ZL.take 6 rfl (by kernel_rfl) rfl rfl rfl hK0 (fun w hK => Res.fieldA rfl rfl Tryz.underlying67 rfl (show SZ Tryz.prog _ 1 from sz3) (by decide)) ?_
  refine ZL.take 7 rfl (by kernel_rfl) rfl rfl rfl hK0 (fun w hK => Res.load1 (v := .int .i64 at_) rfl rfl Tryz.underlying3 rfl (w := w) (by rw [cell_of hK.2]; rfl)) ?_
  refine ZL.one 2 rfl (by kernel_rfl) rfl (Stp.callA (args := [_, _]) rfl rfl rfl cal42 rfl rfl (among_ok f 1000 (by omega) _) ?_)
  skip
  refine ⟨hK0, ?_⟩
  refine ZL.take 9 rfl (by kernel_rfl) rfl rfl rfl hK0 (fun w hK => Res.fieldA rfl rfl Tryz.underlying57 rfl (show SZ Tryz.prog _ 1 from sz3) (by decide)) ?_
  refine ZL.one 5 rfl (by kernel_rfl) rfl (Stp.callA (args := [_, _]) rfl rfl rfl cal42 rfl rfl (among_ok u 1000 (by omega) _) ?_)
  skip
  refine ⟨hK0, ?_⟩
  refine ZL.one 8 rfl (by kernel_rfl) rfl (Stp.callA (args := [_, _]) rfl rfl rfl cal42 rfl rfl (among_ok at_ 1000 (by omega) _) ?_)
  skip
  refine ⟨hK0, ?_⟩
  refine ZL.end 10 (by decide) rfl (by kernel_rfl) rfl (Stp.store1 1 (v := .int .i64 ((Seal.amg f 1000 : Nat) : Int)) rfl rfl rfl sz3 rfl rfl hS rfl (by show 3 < 7; decide) ?_)
  intro w hS hpt
  refine ZL.end 11 (by decide) rfl (by kernel_rfl) rfl (Stp.res rfl rfl (Res.fieldA rfl rfl Tryz.underlying57 rfl (show SZ Tryz.prog _ 1 from sz3) (by decide)) ?_)
  refine ZL.end 12 (by decide) rfl (by kernel_rfl) rfl (Stp.store1 1 (v := .int .i64 ((Seal.amg u 1000 : Nat) : Int)) rfl rfl rfl sz3 rfl rfl hS rfl (by show 4 < 7; decide) ?_)
  intro w hS hpt
  refine ZL.end 13 (by decide) rfl (by kernel_rfl) rfl (Stp.res rfl rfl (Res.fieldA rfl rfl Tryz.underlying67 rfl (show SZ Tryz.prog _ 1 from sz3) (by decide)) ?_)
  refine ZL.end 14 (by decide) rfl (by kernel_rfl) rfl (Stp.store1 0 (v := .int .i64 ((Seal.amg at_ 1000 : Nat) : Int)) rfl rfl rfl sz3 rfl rfl hS rfl (by show 1 < 3; decide) ?_)
  intro w hS hpt
  change St w0 w M1 [(b6, .cells #[Go.E.str ac, .int .i64 ((Seal.amg at_ 1000 : Nat) : Int), .int .i64 no] 67 (0, 0)), (b5, .cells #[Go.E.str c, Go.E.str s, kv, .int .i64 ((Seal.amg f 1000 : Nat) : Int), .int .i64 ((Seal.amg u 1000 : Nat) : Int), .int .i64 e, .int .i64 fl] 57 (0, 0))] at hS
  refine ZL.done (by kernel_rfl) (Thn_n ?_)
  refine CW.seq ?_
  refine CW.region ?_
  refine WL.step rfl (Stp.res rfl rfl (Res.fieldA rfl rfl Tryz.underlying57 rfl (show SZ Tryz.prog _ 1 from sz9) (by decide)) ?_)
  refine WL.step rfl (Stp.res rfl rfl (Res.load1 (v := Go.E.str s) rfl rfl Tryz.underlying9 rfl (hS.ocell (i := 1) rfl rfl)) ?_)
  refine WL.step rfl (Stp.res rfl rfl (Res.move rfl rfl) ?_)
  refine WL.step rfl (Stp.res rfl rfl (Res.to (Res.eqlS rfl rfl rfl) p1) ?_)
  refine WL.step rfl (Stp.res rfl rfl (Res.move rfl rfl) ?_)
  refine WL.stepG 4 true rfl rfl rfl rfl (Stp.res rfl rfl (Res.fieldA rfl rfl Tryz.underlying57 rfl (show SZ Tryz.prog _ 1 from sz9) (by decide)) ?_)
  refine WL.stepG 4 true rfl rfl rfl rfl (Stp.res rfl rfl (Res.load1 (v := Go.E.str c) rfl rfl Tryz.underlying9 rfl (hS.ocell (i := 1) rfl rfl)) ?_)
  refine WL.stepG 4 true rfl rfl rfl rfl (Stp.res rfl rfl (Res.fieldA rfl rfl Tryz.underlying67 rfl (show SZ Tryz.prog _ 1 from sz9) (by decide)) ?_)
  refine WL.stepG 4 true rfl rfl rfl rfl (Stp.res rfl rfl (Res.load1 (v := Go.E.str ac) rfl rfl Tryz.underlying9 rfl (hS.ocell (i := 0) rfl rfl)) ?_)
  refine WL.stepG 4 true rfl rfl rfl rfl (Stp.res rfl rfl (Res.to (Res.eqlS rfl rfl rfl) p2) ?_)
  refine WL.step rfl (Stp.res rfl rfl (Res.pickT rfl rfl rfl) ?_)
  refine WL.step rfl (Stp.res rfl rfl (Res.move rfl rfl) ?_)
  refine WL.stepG 11 true rfl rfl rfl rfl (Stp.res rfl rfl (Res.fieldA rfl rfl Tryz.underlying67 rfl (show SZ Tryz.prog _ 1 from sz3) (by decide)) ?_)
  refine WL.stepG 11 true rfl rfl rfl rfl (Stp.res rfl rfl (Res.load1 (v := .int .i64 ((Seal.amg at_ 1000 : Nat) : Int)) rfl rfl Tryz.underlying3 rfl (hS.ocell (i := 0) rfl rfl)) ?_)
  refine WL.stepG 11 true rfl rfl rfl rfl (Stp.res rfl rfl (Res.move rfl rfl) ?_)
  refine WL.stepG 11 true rfl rfl rfl rfl (Stp.res rfl rfl (Res.sub rfl rfl rfl (by omega)) ?_)
  refine WL.stepG 11 true rfl rfl rfl rfl (Stp.res rfl rfl (Res.move rfl rfl) ?_)
  refine WL.stepG 11 true rfl rfl rfl rfl (Stp.res rfl rfl (Res.to (Res.leq rfl rfl rfl) p3) ?_)
  refine WL.step rfl (Stp.res rfl rfl (Res.pickT rfl rfl rfl) ?_)
  refine WL.step rfl (Stp.res rfl rfl (Res.move rfl rfl) ?_)
  refine WL.stepG 19 true rfl rfl rfl rfl (Stp.res rfl rfl (Res.move rfl rfl) ?_)
  refine WL.stepG 19 true rfl rfl rfl rfl (Stp.res rfl rfl (Res.fieldA rfl rfl Tryz.underlying67 rfl (show SZ Tryz.prog _ 1 from sz3) (by decide)) ?_)
  refine WL.stepG 19 true rfl rfl rfl rfl (Stp.res rfl rfl (Res.load1 (v := .int .i64 ((Seal.amg at_ 1000 : Nat) : Int)) rfl rfl Tryz.underlying3 rfl (hS.ocell (i := 0) rfl rfl)) ?_)
  refine WL.stepG 19 true rfl rfl rfl rfl (Stp.res rfl rfl (Res.sub rfl rfl rfl (by omega)) ?_)
  refine WL.stepG 19 true rfl rfl rfl rfl (Stp.res rfl rfl (Res.move rfl rfl) ?_)
  refine WL.stepG 19 true rfl rfl rfl rfl (Stp.res rfl rfl (Res.toF (Res.leq rfl rfl rfl) p4) ?_)
  refine WL.step rfl (Stp.res rfl rfl (Res.pickT rfl rfl rfl) ?_)
  refine WL.step rfl (Stp.res rfl rfl (Res.move rfl rfl) ?_)
  refine WL.skipG 27 true rfl rfl rfl rfl rfl rfl ?_
  refine WL.skipG 27 true rfl rfl rfl rfl rfl rfl ?_
  refine WL.skipG 27 true rfl rfl rfl rfl rfl rfl ?_
  refine WL.skipG 27 true rfl rfl rfl rfl rfl rfl ?_
  refine WL.skipG 27 true rfl rfl rfl rfl rfl rfl ?_
  refine WL.skipG 27 true rfl rfl rfl rfl rfl rfl ?_
  refine WL.step rfl (Stp.res rfl rfl (Res.pickF rfl rfl rfl) ?_)
  refine WL.step rfl (Stp.res rfl rfl (Res.move rfl rfl) ?_)
  refine WL.skipG 35 true rfl rfl rfl rfl rfl rfl ?_
  refine WL.skipG 35 true rfl rfl rfl rfl rfl rfl ?_
  refine WL.skipG 35 true rfl rfl rfl rfl rfl rfl ?_
  refine WL.skipG 35 true rfl rfl rfl rfl rfl rfl ?_
  refine WL.skipG 35 true rfl rfl rfl rfl rfl rfl ?_
  refine WL.skipG 35 true rfl rfl rfl rfl rfl rfl ?_
  refine WL.step rfl (Stp.res rfl rfl (Res.pickF rfl rfl rfl) ?_)
  refine WL.step rfl (Stp.res rfl rfl (Res.assign rfl rfl) ?_)
  refine WL.nil (Thn_n ?_)
  refine CW.seq ?_
  refine CW.region ?_
  refine WL.step rfl (Stp.res rfl rfl (Res.loadAll (cs := #[Go.E.str c, Go.E.str s, kv, .int .i64 ((Seal.amg f 1000 : Nat) : Int), .int .i64 ((Seal.amg u 1000 : Nat) : Int), .int .i64 e, .int .i64 fl]) rfl rfl Tryz.underlying57 rfl (sz57) (hS.get (i := 1) rfl)) ?_)
  refine WL.step rfl (Stp.res rfl rfl (Res.loadAll (cs := #[Go.E.str ac, .int .i64 ((Seal.amg at_ 1000 : Nat) : Int), .int .i64 no]) rfl rfl Tryz.underlying67 rfl (sz67) (hS.get (i := 0) rfl)) ?_)
  refine WL.step rfl (Stp.res rfl rfl (Res.move rfl rfl) ?_)
  refine WL.step rfl (Stp.res rfl rfl (Res.move rfl rfl) ?_)
  refine WL.step rfl (Stp.res rfl rfl (Res.move rfl rfl) ?_)
  refine WL.step rfl (Stp.callG (args := [_, _, _, _, _]) rfl rfl rfl cal40 rfl rfl hS (judge_ok c s ac svc kv ((Seal.amg f 1000 : Nat) : Int) ((Seal.amg u 1000 : Nat) : Int) e fl ((Seal.amg at_ 1000 : Nat) : Int) no ((Seal.amg now 1000 : Nat) : Int) ((Seal.amg k 100 : Nat) : Int) _ _ hS.on (by omega) (by omega) (by omega) (by omega) (by omega)) ?_)
  rintro _ w _ hS _ ⟨rfl, rfl⟩
  refine WL.step rfl (Stp.res rfl rfl (Res.toF (Res.eql rfl rfl rfl) hj) ?_)
  refine WL.step rfl (Stp.res rfl rfl (Res.move rfl rfl) ?_)
  refine WL.step rfl (Stp.res rfl rfl (Res.toB (Res.eqlBool rfl rfl rfl Tryz.underlying4) rfl) ?_)
  refine WL.step rfl (Stp.res rfl rfl (Res.assign rfl rfl) ?_)
  refine WL.nil (Thn_n ?_)
  refine CW.ret ?_
  exact fq_tmp rfl rfl ⟨M, ((hS.drop (i := 0) rfl hb6).drop (i := 0) rfl hb5).known hG1.1, PH.le.refl _, Fresh.refl _ _, rfl, rfl⟩

theorem law_within4 (c s ac svc : List UInt8) (kv : Value) (f u e fl at_ no now k : Int) (w0 : World) (M : PH) (hM : On M w0) (hgl : GL M) (hf : -9223372036854775808 ≤ f ∧ f ≤ 9223372036854775807) (hu : -9223372036854775808 ≤ u ∧ u ≤ 9223372036854775807) (hat_ : -9223372036854775808 ≤ at_ ∧ at_ ≤ 9223372036854775807) (hnow : -9223372036854775808 ≤ now ∧ now ≤ 9223372036854775807) (hk : -9223372036854775808 ≤ k ∧ k ≤ 9223372036854775807) (p1 : s = svc) (p2 : c = ac) (p3 : ((Seal.amg at_ 1000 : Nat) : Int) - ((Seal.amg now 1000 : Nat) : Int) ≤ ((Seal.amg k 100 : Nat) : Int)) (p4 : ((Seal.amg now 1000 : Nat) : Int) - ((Seal.amg at_ 1000 : Nat) : Int) ≤ ((Seal.amg k 100 : Nat) : Int)) (p5 : ¬ (((Seal.amg now 1000 : Nat) : Int) + ((Seal.amg k 100 : Nat) : Int) ≥ ((Seal.amg f 1000 : Nat) : Int))) : Ok Tryz.prog 9 #[.agg #[Go.E.str c, Go.E.str s, kv, .int .i64 f, .int .i64 u, .int .i64 e, .int .i64 fl], .agg #[Go.E.str ac, .int .i64 at_, .int .i64 no], Go.E.str svc, .int .i64 now, .int .i64 k] w0 M (fun M' r => M = M' ∧ r = .bool true) := by
  have hS := hM.st
  have hf1 := Seal.amg_lt f (n := 1000) (by omega)
  have hu1 := Seal.amg_lt u (n := 1000) (by omega)
  have ha1 := Seal.amg_lt at_ (n := 1000) (by omega)
  have hn1 := Seal.amg_lt now (n := 1000) (by omega)
  have hk1 := Seal.amg_lt k (n := 100) (by omega)
  have hjz := Tick.judge_zero (c := c) (s := s) (ac := ac) (svc := svc) (f := ((Seal.amg f 1000 : Nat) : Int)) (u := ((Seal.amg u 1000 : Nat) : Int)) (at_ := ((Seal.amg at_ 1000 : Nat) : Int)) (now := ((Seal.amg now 1000 : Nat) : Int)) (k := ((Seal.amg k 100 : Nat) : Int)) (by omega)
  have hj : ¬ (Tick.judge c s ((Seal.amg f 1000 : Nat) : Int) ((Seal.amg u 1000 : Nat) : Int) ac ((Seal.amg at_ 1000 : Nat) : Int) svc ((Seal.amg now 1000 : Nat) : Int) ((Seal.amg k 100 : Nat) : Int) = 0) := fun h => p5 (hjz.1 h).2.2.2.2.1
  refine enterB (l := [.agg #[Go.E.str c, Go.E.str s, kv, .int .i64 f, .int .i64 u, .int .i64 e, .int .i64 fl], .agg #[Go.E.str ac, .int .i64 at_, .int .i64 no], Go.E.str svc, .int .i64 now, .int .i64 k]) 82 Tryz.func9 rfl Tryz.ntmps9 rfl ?_
  refine CW.seq ?_
  refine CW.region ?_
  refine WL.step rfl (Stp.boxA rfl rfl rfl rfl hS ?_)
  intro b5 w hb5 hS hkp hnw
  refine WL.step rfl (Stp.boxA rfl rfl rfl rfl hS ?_)
  intro b6 w hb6 hS hkp hnw
  refine WL.step rfl (Stp.res rfl rfl (Res.assign rfl rfl) ?_)
  refine WL.nil (Thn_n ?_)
  refine CW.seq ?_
  refine CW.seq ?_
  refine CW.region ?_
  refine WL.step rfl (Stp.callG (args := []) rfl rfl rfl cal39 rfl rfl hS (works20_ok _ _ hS.on hgl) ?_)
  rintro _ w M1 hS hG1 rfl
  refine WL.step rfl (Stp.res rfl rfl (Res.not rfl rfl rfl) ?_)
  refine WL.nil (Thn_n ?_)
  refine CW.condF rfl ?_
  refine CW.skip (Thn_n ?_)
  refine CW.seq ?_
  refine CW.region ?_
  refine WL.step rfl (Stp.res rfl rfl (Res.move rfl rfl) ?_)
  refine WL.step rfl (Stp.callA (args := [_, _]) rfl rfl rfl cal42 rfl rfl (among_ok now 1000 (by omega) _) ?_)
  refine WL.step rfl (Stp.res rfl rfl (Res.move rfl rfl) ?_)
  refine WL.step rfl (Stp.callA (args := [_, _]) rfl rfl rfl cal42 rfl rfl (among_ok k 100 (by omega) _) ?_)
  refine WL.step rfl (Stp.res rfl rfl (Res.assign rfl rfl) ?_)
  refine WL.step rfl (Stp.res rfl rfl (Res.assign rfl rfl) ?_)
  refine WL.nil (Thn_n ?_)
  refine CW.seq ?_
  have hS := hS.drew
  have hK0 := And.intro (hS.get (i := 1) rfl) (hS.get (i := 0) rfl)
  refine CW.last (fun w => w.heap[b5]? = some (.cells #[Go.E.str c, Go.E.str s, kv, .int .i64 f, .int .i64 u, .int .i64 e, .int .i64 fl] 57 (0, 0)) ∧ w.heap[b6]? = some (.cells #[Go.E.str ac, .int .i64 at_, .int .i64 no] 67 (0, 0))) [10, 11, 12, 13, 14] mixed ?_
  refine ZL.take 0 rfl (by kernel_rfl) rfl rfl rfl hK0 (fun w hK => Res.fieldA rfl rfl Tryz.underlying57 rfl (show SZ Tryz.prog _ 1 from sz3) (by decide)) ?_
  refine ZL.take 1 rfl (by kernel_rfl) rfl rfl rfl hK0 (fun w hK => Res.load1 (v := .int .i64 f) rfl rfl Tryz.underlying3 rfl (w := w) (by rw [cell_of hK.1]; rfl)) ?_
  refine ZL.take 3 rfl (by kernel_rfl) rfl rfl rfl hK0 (fun w hK => Res.fieldA rfl rfl Tryz.underlying57 rfl (show SZ Tryz.prog _ 1 from sz3) (by decide)) ?_
  refine ZL.take 4 rfl (by kernel_rfl) rfl rfl rfl hK0 (fun w hK => Res.load1 (v := .int .i64 u) rfl rfl Tryz.underlying3 rfl (w := w) (by rw [cell_of hK.1]; rfl)) ?_
  refine ZL.take 6 rfl (by kernel_rfl) rfl rfl rfl hK0 (fun w hK => Res.fieldA rfl rfl Tryz.underlying67 rfl (show SZ Tryz.prog _ 1 from sz3) (by decide)) ?_
  refine ZL.take 7 rfl (by kernel_rfl) rfl rfl rfl hK0 (fun w hK => Res.load1 (v := .int .i64 at_) rfl rfl Tryz.underlying3 rfl (w := w) (by rw [cell_of hK.2]; rfl)) ?_
  refine ZL.one 2 rfl (by kernel_rfl) rfl (Stp.callA (args := [_, _]) rfl rfl rfl cal42 rfl rfl (among_ok f 1000 (by omega) _) ?_)
  skip
  refine ⟨hK0, ?_⟩
  refine ZL.take 9 rfl (by kernel_rfl) rfl rfl rfl hK0 (fun w hK => Res.fieldA rfl rfl Tryz.underlying57 rfl (show SZ Tryz.prog _ 1 from sz3) (by decide)) ?_
  refine ZL.one 5 rfl (by kernel_rfl) rfl (Stp.callA (args := [_, _]) rfl rfl rfl cal42 rfl rfl (among_ok u 1000 (by omega) _) ?_)
  skip
  refine ⟨hK0, ?_⟩
  refine ZL.one 8 rfl (by kernel_rfl) rfl (Stp.callA (args := [_, _]) rfl rfl rfl cal42 rfl rfl (among_ok at_ 1000 (by omega) _) ?_)
  skip
  refine ⟨hK0, ?_⟩
  refine ZL.end 10 (by decide) rfl (by kernel_rfl) rfl (Stp.store1 1 (v := .int .i64 ((Seal.amg f 1000 : Nat) : Int)) rfl rfl rfl sz3 rfl rfl hS rfl (by show 3 < 7; decide) ?_)
  intro w hS hpt
  refine ZL.end 11 (by decide) rfl (by kernel_rfl) rfl (Stp.res rfl rfl (Res.fieldA rfl rfl Tryz.underlying57 rfl (show SZ Tryz.prog _ 1 from sz3) (by decide)) ?_)
  refine ZL.end 12 (by decide) rfl (by kernel_rfl) rfl (Stp.store1 1 (v := .int .i64 ((Seal.amg u 1000 : Nat) : Int)) rfl rfl rfl sz3 rfl rfl hS rfl (by show 4 < 7; decide) ?_)
  intro w hS hpt
  refine ZL.end 13 (by decide) rfl (by kernel_rfl) rfl (Stp.res rfl rfl (Res.fieldA rfl rfl Tryz.underlying67 rfl (show SZ Tryz.prog _ 1 from sz3) (by decide)) ?_)
  refine ZL.end 14 (by decide) rfl (by kernel_rfl) rfl (Stp.store1 0 (v := .int .i64 ((Seal.amg at_ 1000 : Nat) : Int)) rfl rfl rfl sz3 rfl rfl hS rfl (by show 1 < 3; decide) ?_)
  intro w hS hpt
  change St w0 w M1 [(b6, .cells #[Go.E.str ac, .int .i64 ((Seal.amg at_ 1000 : Nat) : Int), .int .i64 no] 67 (0, 0)), (b5, .cells #[Go.E.str c, Go.E.str s, kv, .int .i64 ((Seal.amg f 1000 : Nat) : Int), .int .i64 ((Seal.amg u 1000 : Nat) : Int), .int .i64 e, .int .i64 fl] 57 (0, 0))] at hS
  refine ZL.done (by kernel_rfl) (Thn_n ?_)
  refine CW.seq ?_
  refine CW.region ?_
  refine WL.step rfl (Stp.res rfl rfl (Res.fieldA rfl rfl Tryz.underlying57 rfl (show SZ Tryz.prog _ 1 from sz9) (by decide)) ?_)
  refine WL.step rfl (Stp.res rfl rfl (Res.load1 (v := Go.E.str s) rfl rfl Tryz.underlying9 rfl (hS.ocell (i := 1) rfl rfl)) ?_)
  refine WL.step rfl (Stp.res rfl rfl (Res.move rfl rfl) ?_)
  refine WL.step rfl (Stp.res rfl rfl (Res.to (Res.eqlS rfl rfl rfl) p1) ?_)
  refine WL.step rfl (Stp.res rfl rfl (Res.move rfl rfl) ?_)
  refine WL.stepG 4 true rfl rfl rfl rfl (Stp.res rfl rfl (Res.fieldA rfl rfl Tryz.underlying57 rfl (show SZ Tryz.prog _ 1 from sz9) (by decide)) ?_)
  refine WL.stepG 4 true rfl rfl rfl rfl (Stp.res rfl rfl (Res.load1 (v := Go.E.str c) rfl rfl Tryz.underlying9 rfl (hS.ocell (i := 1) rfl rfl)) ?_)
  refine WL.stepG 4 true rfl rfl rfl rfl (Stp.res rfl rfl (Res.fieldA rfl rfl Tryz.underlying67 rfl (show SZ Tryz.prog _ 1 from sz9) (by decide)) ?_)
  refine WL.stepG 4 true rfl rfl rfl rfl (Stp.res rfl rfl (Res.load1 (v := Go.E.str ac) rfl rfl Tryz.underlying9 rfl (hS.ocell (i := 0) rfl rfl)) ?_)
  refine WL.stepG 4 true rfl rfl rfl rfl (Stp.res rfl rfl (Res.to (Res.eqlS rfl rfl rfl) p2) ?_)
  refine WL.step rfl (Stp.res rfl rfl (Res.pickT rfl rfl rfl) ?_)
  refine WL.step rfl (Stp.res rfl rfl (Res.move rfl rfl) ?_)
  refine WL.stepG 11 true rfl rfl rfl rfl (Stp.res rfl rfl (Res.fieldA rfl rfl Tryz.underlying67 rfl (show SZ Tryz.prog _ 1 from sz3) (by decide)) ?_)
  refine WL.stepG 11 true rfl rfl rfl rfl (Stp.res rfl rfl (Res.load1 (v := .int .i64 ((Seal.amg at_ 1000 : Nat) : Int)) rfl rfl Tryz.underlying3 rfl (hS.ocell (i := 0) rfl rfl)) ?_)
  refine WL.stepG 11 true rfl rfl rfl rfl (Stp.res rfl rfl (Res.move rfl rfl) ?_)
  refine WL.stepG 11 true rfl rfl rfl rfl (Stp.res rfl rfl (Res.sub rfl rfl rfl (by omega)) ?_)
  refine WL.stepG 11 true rfl rfl rfl rfl (Stp.res rfl rfl (Res.move rfl rfl) ?_)
  refine WL.stepG 11 true rfl rfl rfl rfl (Stp.res rfl rfl (Res.to (Res.leq rfl rfl rfl) p3) ?_)
  refine WL.step rfl (Stp.res rfl rfl (Res.pickT rfl rfl rfl) ?_)
  refine WL.step rfl (Stp.res rfl rfl (Res.move rfl rfl) ?_)
  refine WL.stepG 19 true rfl rfl rfl rfl (Stp.res rfl rfl (Res.move rfl rfl) ?_)
  refine WL.stepG 19 true rfl rfl rfl rfl (Stp.res rfl rfl (Res.fieldA rfl rfl Tryz.underlying67 rfl (show SZ Tryz.prog _ 1 from sz3) (by decide)) ?_)
  refine WL.stepG 19 true rfl rfl rfl rfl (Stp.res rfl rfl (Res.load1 (v := .int .i64 ((Seal.amg at_ 1000 : Nat) : Int)) rfl rfl Tryz.underlying3 rfl (hS.ocell (i := 0) rfl rfl)) ?_)
  refine WL.stepG 19 true rfl rfl rfl rfl (Stp.res rfl rfl (Res.sub rfl rfl rfl (by omega)) ?_)
  refine WL.stepG 19 true rfl rfl rfl rfl (Stp.res rfl rfl (Res.move rfl rfl) ?_)
  refine WL.stepG 19 true rfl rfl rfl rfl (Stp.res rfl rfl (Res.to (Res.leq rfl rfl rfl) p4) ?_)
  refine WL.step rfl (Stp.res rfl rfl (Res.pickT rfl rfl rfl) ?_)
  refine WL.step rfl (Stp.res rfl rfl (Res.move rfl rfl) ?_)
  refine WL.stepG 27 true rfl rfl rfl rfl (Stp.res rfl rfl (Res.move rfl rfl) ?_)
  refine WL.stepG 27 true rfl rfl rfl rfl (Stp.res rfl rfl (Res.move rfl rfl) ?_)
  refine WL.stepG 27 true rfl rfl rfl rfl (Stp.res rfl rfl (Res.add rfl rfl rfl (by omega)) ?_)
  refine WL.stepG 27 true rfl rfl rfl rfl (Stp.res rfl rfl (Res.fieldA rfl rfl Tryz.underlying57 rfl (show SZ Tryz.prog _ 1 from sz3) (by decide)) ?_)
  refine WL.stepG 27 true rfl rfl rfl rfl (Stp.res rfl rfl (Res.load1 (v := .int .i64 ((Seal.amg f 1000 : Nat) : Int)) rfl rfl Tryz.underlying3 rfl (hS.ocell (i := 1) rfl rfl)) ?_)
  refine WL.stepG 27 true rfl rfl rfl rfl (Stp.res rfl rfl (Res.toF (Res.geq rfl rfl rfl) p5) ?_)
  refine WL.step rfl (Stp.res rfl rfl (Res.pickT rfl rfl rfl) ?_)
  refine WL.step rfl (Stp.res rfl rfl (Res.move rfl rfl) ?_)
  refine WL.skipG 35 true rfl rfl rfl rfl rfl rfl ?_
  refine WL.skipG 35 true rfl rfl rfl rfl rfl rfl ?_
  refine WL.skipG 35 true rfl rfl rfl rfl rfl rfl ?_
  refine WL.skipG 35 true rfl rfl rfl rfl rfl rfl ?_
  refine WL.skipG 35 true rfl rfl rfl rfl rfl rfl ?_
  refine WL.skipG 35 true rfl rfl rfl rfl rfl rfl ?_
  refine WL.step rfl (Stp.res rfl rfl (Res.pickF rfl rfl rfl) ?_)
  refine WL.step rfl (Stp.res rfl rfl (Res.assign rfl rfl) ?_)
  refine WL.nil (Thn_n ?_)
  refine CW.seq ?_
  refine CW.region ?_
  refine WL.step rfl (Stp.res rfl rfl (Res.loadAll (cs := #[Go.E.str c, Go.E.str s, kv, .int .i64 ((Seal.amg f 1000 : Nat) : Int), .int .i64 ((Seal.amg u 1000 : Nat) : Int), .int .i64 e, .int .i64 fl]) rfl rfl Tryz.underlying57 rfl (sz57) (hS.get (i := 1) rfl)) ?_)
  refine WL.step rfl (Stp.res rfl rfl (Res.loadAll (cs := #[Go.E.str ac, .int .i64 ((Seal.amg at_ 1000 : Nat) : Int), .int .i64 no]) rfl rfl Tryz.underlying67 rfl (sz67) (hS.get (i := 0) rfl)) ?_)
  refine WL.step rfl (Stp.res rfl rfl (Res.move rfl rfl) ?_)
  refine WL.step rfl (Stp.res rfl rfl (Res.move rfl rfl) ?_)
  refine WL.step rfl (Stp.res rfl rfl (Res.move rfl rfl) ?_)
  refine WL.step rfl (Stp.callG (args := [_, _, _, _, _]) rfl rfl rfl cal40 rfl rfl hS (judge_ok c s ac svc kv ((Seal.amg f 1000 : Nat) : Int) ((Seal.amg u 1000 : Nat) : Int) e fl ((Seal.amg at_ 1000 : Nat) : Int) no ((Seal.amg now 1000 : Nat) : Int) ((Seal.amg k 100 : Nat) : Int) _ _ hS.on (by omega) (by omega) (by omega) (by omega) (by omega)) ?_)
  rintro _ w _ hS _ ⟨rfl, rfl⟩
  refine WL.step rfl (Stp.res rfl rfl (Res.toF (Res.eql rfl rfl rfl) hj) ?_)
  refine WL.step rfl (Stp.res rfl rfl (Res.move rfl rfl) ?_)
  refine WL.step rfl (Stp.res rfl rfl (Res.toB (Res.eqlBool rfl rfl rfl Tryz.underlying4) rfl) ?_)
  refine WL.step rfl (Stp.res rfl rfl (Res.assign rfl rfl) ?_)
  refine WL.nil (Thn_n ?_)
  refine CW.ret ?_
  exact fq_tmp rfl rfl ⟨M, ((hS.drop (i := 0) rfl hb6).drop (i := 0) rfl hb5).known hG1.1, PH.le.refl _, Fresh.refl _ _, rfl, rfl⟩

theorem law_within5 (c s ac svc : List UInt8) (kv : Value) (f u e fl at_ no now k : Int) (w0 : World) (M : PH) (hM : On M w0) (hgl : GL M) (hf : -9223372036854775808 ≤ f ∧ f ≤ 9223372036854775807) (hu : -9223372036854775808 ≤ u ∧ u ≤ 9223372036854775807) (hat_ : -9223372036854775808 ≤ at_ ∧ at_ ≤ 9223372036854775807) (hnow : -9223372036854775808 ≤ now ∧ now ≤ 9223372036854775807) (hk : -9223372036854775808 ≤ k ∧ k ≤ 9223372036854775807) (p1 : s = svc) (p2 : c = ac) (p3 : ((Seal.amg at_ 1000 : Nat) : Int) - ((Seal.amg now 1000 : Nat) : Int) ≤ ((Seal.amg k 100 : Nat) : Int)) (p4 : ((Seal.amg now 1000 : Nat) : Int) - ((Seal.amg at_ 1000 : Nat) : Int) ≤ ((Seal.amg k 100 : Nat) : Int)) (p5 : ((Seal.amg now 1000 : Nat) : Int) + ((Seal.amg k 100 : Nat) : Int) ≥ ((Seal.amg f 1000 : Nat) : Int)) (p6 : ¬ (((Seal.amg now 1000 : Nat) : Int) ≤ ((Seal.amg u 1000 : Nat) : Int) + ((Seal.amg k 100 : Nat) : Int))) : Ok Tryz.prog 9 #[.agg #[Go.E.str c, Go.E.str s, kv, .int .i64 f, .int .i64 u, .int .i64 e, .int .i64 fl], .agg #[Go.E.str ac, .int .i64 at_, .int .i64 no], Go.E.str svc, .int .i64 now, .int .i64 k] w0 M (fun M' r => M = M' ∧ r = .bool true) := by
  have hS := hM.st
  have hf1 := Seal.amg_lt f (n := 1000) (by omega)
  have hu1 := Seal.amg_lt u (n := 1000) (by omega)
  have ha1 := Seal.amg_lt at_ (n := 1000) (by omega)
  have hn1 := Seal.amg_lt now (n := 1000) (by omega)
  have hk1 := Seal.amg_lt k (n := 100) (by omega)
  have hjz := Tick.judge_zero (c := c) (s := s) (ac := ac) (svc := svc) (f := ((Seal.amg f 1000 : Nat) : Int)) (u := ((Seal.amg u 1000 : Nat) : Int)) (at_ := ((Seal.amg at_ 1000 : Nat) : Int)) (now := ((Seal.amg now 1000 : Nat) : Int)) (k := ((Seal.amg k 100 : Nat) : Int)) (by omega)
  have hj : ¬ (Tick.judge c s ((Seal.amg f 1000 : Nat) : Int) ((Seal.amg u 1000 : Nat) : Int) ac ((Seal.amg at_ 1000 : Nat) : Int) svc ((Seal.amg now 1000 : Nat) : Int) ((Seal.amg k 100 : Nat) : Int) = 0) := fun h => p6 (hjz.1 h).2.2.2.2.2
  refine enterB (l := [.agg #[Go.E.str c, Go.E.str s, kv, .int .i64 f, .int .i64 u, .int .i64 e, .int .i64 fl], .agg #[Go.E.str ac, .int .i64 at_, .int .i64 no], Go.E.str svc, .int .i64 now, .int .i64 k]) 82 Tryz.func9 rfl Tryz.ntmps9 rfl ?_
  refine CW.seq ?_
  refine CW.region ?_
  refine WL.step rfl (Stp.boxA rfl rfl rfl rfl hS ?_)
  intro b5 w hb5 hS hkp hnw
  refine WL.step rfl (Stp.boxA rfl rfl rfl rfl hS ?_)
  intro b6 w hb6 hS hkp hnw
  refine WL.step rfl (Stp.res rfl rfl (Res.assign rfl rfl) ?_)
  refine WL.nil (Thn_n ?_)
  refine CW.seq ?_
  refine CW.seq ?_
  refine CW.region ?_
  refine WL.step rfl (Stp.callG (args := []) rfl rfl rfl cal39 rfl rfl hS (works20_ok _ _ hS.on hgl) ?_)
  rintro _ w M1 hS hG1 rfl
  refine WL.step rfl (Stp.res rfl rfl (Res.not rfl rfl rfl) ?_)
  refine WL.nil (Thn_n ?_)
  refine CW.condF rfl ?_
  refine CW.skip (Thn_n ?_)
  refine CW.seq ?_
  refine CW.region ?_
  refine WL.step rfl (Stp.res rfl rfl (Res.move rfl rfl) ?_)
  refine WL.step rfl (Stp.callA (args := [_, _]) rfl rfl rfl cal42 rfl rfl (among_ok now 1000 (by omega) _) ?_)
  refine WL.step rfl (Stp.res rfl rfl (Res.move rfl rfl) ?_)
  refine WL.step rfl (Stp.callA (args := [_, _]) rfl rfl rfl cal42 rfl rfl (among_ok k 100 (by omega) _) ?_)
  refine WL.step rfl (Stp.res rfl rfl (Res.assign rfl rfl) ?_)
  refine WL.step rfl (Stp.res rfl rfl (Res.assign rfl rfl) ?_)
  refine WL.nil (Thn_n ?_)
  refine CW.seq ?_
  have hS := hS.drew
  have hK0 := And.intro (hS.get (i := 1) rfl) (hS.get (i := 0) rfl)
  refine CW.last (fun w => w.heap[b5]? = some (.cells #[Go.E.str c, Go.E.str s, kv, .int .i64 f, .int .i64 u, .int .i64 e, .int .i64 fl] 57 (0, 0)) ∧ w.heap[b6]? = some (.cells #[Go.E.str ac, .int .i64 at_, .int .i64 no] 67 (0, 0))) [10, 11, 12, 13, 14] mixed ?_
  refine ZL.take 0 rfl (by kernel_rfl) rfl rfl rfl hK0 (fun w hK => Res.fieldA rfl rfl Tryz.underlying57 rfl (show SZ Tryz.prog _ 1 from sz3) (by decide)) ?_
  refine ZL.take 1 rfl (by kernel_rfl) rfl rfl rfl hK0 (fun w hK => Res.load1 (v := .int .i64 f) rfl rfl Tryz.underlying3 rfl (w := w) (by rw [cell_of hK.1]; rfl)) ?_
  refine ZL.take 3 rfl (by kernel_rfl) rfl rfl rfl hK0 (fun w hK => Res.fieldA rfl rfl Tryz.underlying57 rfl (show SZ Tryz.prog _ 1 from sz3) (by decide)) ?_
  refine ZL.take 4 rfl (by kernel_rfl) rfl rfl rfl hK0 (fun w hK => Res.load1 (v := .int .i64 u) rfl rfl Tryz.underlying3 rfl (w := w) (by rw [cell_of hK.1]; rfl)) ?_
  refine ZL.take 6 rfl (by kernel_rfl) rfl rfl rfl hK0 (fun w hK => Res.fieldA rfl rfl Tryz.underlying67 rfl (show SZ Tryz.prog _ 1 from sz3) (by decide)) ?_
  refine ZL.take 7 rfl (by kernel_rfl) rfl rfl rfl hK0 (fun w hK => Res.load1 (v := .int .i64 at_) rfl rfl Tryz.underlying3 rfl (w := w) (by rw [cell_of hK.2]; rfl)) ?_
  refine ZL.one 2 rfl (by kernel_rfl) rfl (Stp.callA (args := [_, _]) rfl rfl rfl cal42 rfl rfl (among_ok f 1000 (by omega) _) ?_)
  skip
  refine ⟨hK0, ?_⟩
  refine ZL.take 9 rfl (by kernel_rfl) rfl rfl rfl hK0 (fun w hK => Res.fieldA rfl rfl Tryz.underlying57 rfl (show SZ Tryz.prog _ 1 from sz3) (by decide)) ?_
  refine ZL.one 5 rfl (by kernel_rfl) rfl (Stp.callA (args := [_, _]) rfl rfl rfl cal42 rfl rfl (among_ok u 1000 (by omega) _) ?_)
  skip
  refine ⟨hK0, ?_⟩
  refine ZL.one 8 rfl (by kernel_rfl) rfl (Stp.callA (args := [_, _]) rfl rfl rfl cal42 rfl rfl (among_ok at_ 1000 (by omega) _) ?_)
  skip
  refine ⟨hK0, ?_⟩
  refine ZL.end 10 (by decide) rfl (by kernel_rfl) rfl (Stp.store1 1 (v := .int .i64 ((Seal.amg f 1000 : Nat) : Int)) rfl rfl rfl sz3 rfl rfl hS rfl (by show 3 < 7; decide) ?_)
  intro w hS hpt
  refine ZL.end 11 (by decide) rfl (by kernel_rfl) rfl (Stp.res rfl rfl (Res.fieldA rfl rfl Tryz.underlying57 rfl (show SZ Tryz.prog _ 1 from sz3) (by decide)) ?_)
  refine ZL.end 12 (by decide) rfl (by kernel_rfl) rfl (Stp.store1 1 (v := .int .i64 ((Seal.amg u 1000 : Nat) : Int)) rfl rfl rfl sz3 rfl rfl hS rfl (by show 4 < 7; decide) ?_)
  intro w hS hpt
  refine ZL.end 13 (by decide) rfl (by kernel_rfl) rfl (Stp.res rfl rfl (Res.fieldA rfl rfl Tryz.underlying67 rfl (show SZ Tryz.prog _ 1 from sz3) (by decide)) ?_)
  refine ZL.end 14 (by decide) rfl (by kernel_rfl) rfl (Stp.store1 0 (v := .int .i64 ((Seal.amg at_ 1000 : Nat) : Int)) rfl rfl rfl sz3 rfl rfl hS rfl (by show 1 < 3; decide) ?_)
  intro w hS hpt
  change St w0 w M1 [(b6, .cells #[Go.E.str ac, .int .i64 ((Seal.amg at_ 1000 : Nat) : Int), .int .i64 no] 67 (0, 0)), (b5, .cells #[Go.E.str c, Go.E.str s, kv, .int .i64 ((Seal.amg f 1000 : Nat) : Int), .int .i64 ((Seal.amg u 1000 : Nat) : Int), .int .i64 e, .int .i64 fl] 57 (0, 0))] at hS
  refine ZL.done (by kernel_rfl) (Thn_n ?_)
  refine CW.seq ?_
  refine CW.region ?_
  refine WL.step rfl (Stp.res rfl rfl (Res.fieldA rfl rfl Tryz.underlying57 rfl (show SZ Tryz.prog _ 1 from sz9) (by decide)) ?_)
  refine WL.step rfl (Stp.res rfl rfl (Res.load1 (v := Go.E.str s) rfl rfl Tryz.underlying9 rfl (hS.ocell (i := 1) rfl rfl)) ?_)
  refine WL.step rfl (Stp.res rfl rfl (Res.move rfl rfl) ?_)
  refine WL.step rfl (Stp.res rfl rfl (Res.to (Res.eqlS rfl rfl rfl) p1) ?_)
  refine WL.step rfl (Stp.res rfl rfl (Res.move rfl rfl) ?_)
  refine WL.stepG 4 true rfl rfl rfl rfl (Stp.res rfl rfl (Res.fieldA rfl rfl Tryz.underlying57 rfl (show SZ Tryz.prog _ 1 from sz9) (by decide)) ?_)
  refine WL.stepG 4 true rfl rfl rfl rfl (Stp.res rfl rfl (Res.load1 (v := Go.E.str c) rfl rfl Tryz.underlying9 rfl (hS.ocell (i := 1) rfl rfl)) ?_)
  refine WL.stepG 4 true rfl rfl rfl rfl (Stp.res rfl rfl (Res.fieldA rfl rfl Tryz.underlying67 rfl (show SZ Tryz.prog _ 1 from sz9) (by decide)) ?_)
  refine WL.stepG 4 true rfl rfl rfl rfl (Stp.res rfl rfl (Res.load1 (v := Go.E.str ac) rfl rfl Tryz.underlying9 rfl (hS.ocell (i := 0) rfl rfl)) ?_)
  refine WL.stepG 4 true rfl rfl rfl rfl (Stp.res rfl rfl (Res.to (Res.eqlS rfl rfl rfl) p2) ?_)
  refine WL.step rfl (Stp.res rfl rfl (Res.pickT rfl rfl rfl) ?_)
  refine WL.step rfl (Stp.res rfl rfl (Res.move rfl rfl) ?_)
  refine WL.stepG 11 true rfl rfl rfl rfl (Stp.res rfl rfl (Res.fieldA rfl rfl Tryz.underlying67 rfl (show SZ Tryz.prog _ 1 from sz3) (by decide)) ?_)
  refine WL.stepG 11 true rfl rfl rfl rfl (Stp.res rfl rfl (Res.load1 (v := .int .i64 ((Seal.amg at_ 1000 : Nat) : Int)) rfl rfl Tryz.underlying3 rfl (hS.ocell (i := 0) rfl rfl)) ?_)
  refine WL.stepG 11 true rfl rfl rfl rfl (Stp.res rfl rfl (Res.move rfl rfl) ?_)
  refine WL.stepG 11 true rfl rfl rfl rfl (Stp.res rfl rfl (Res.sub rfl rfl rfl (by omega)) ?_)
  refine WL.stepG 11 true rfl rfl rfl rfl (Stp.res rfl rfl (Res.move rfl rfl) ?_)
  refine WL.stepG 11 true rfl rfl rfl rfl (Stp.res rfl rfl (Res.to (Res.leq rfl rfl rfl) p3) ?_)
  refine WL.step rfl (Stp.res rfl rfl (Res.pickT rfl rfl rfl) ?_)
  refine WL.step rfl (Stp.res rfl rfl (Res.move rfl rfl) ?_)
  refine WL.stepG 19 true rfl rfl rfl rfl (Stp.res rfl rfl (Res.move rfl rfl) ?_)
  refine WL.stepG 19 true rfl rfl rfl rfl (Stp.res rfl rfl (Res.fieldA rfl rfl Tryz.underlying67 rfl (show SZ Tryz.prog _ 1 from sz3) (by decide)) ?_)
  refine WL.stepG 19 true rfl rfl rfl rfl (Stp.res rfl rfl (Res.load1 (v := .int .i64 ((Seal.amg at_ 1000 : Nat) : Int)) rfl rfl Tryz.underlying3 rfl (hS.ocell (i := 0) rfl rfl)) ?_)
  refine WL.stepG 19 true rfl rfl rfl rfl (Stp.res rfl rfl (Res.sub rfl rfl rfl (by omega)) ?_)
  refine WL.stepG 19 true rfl rfl rfl rfl (Stp.res rfl rfl (Res.move rfl rfl) ?_)
  refine WL.stepG 19 true rfl rfl rfl rfl (Stp.res rfl rfl (Res.to (Res.leq rfl rfl rfl) p4) ?_)
  refine WL.step rfl (Stp.res rfl rfl (Res.pickT rfl rfl rfl) ?_)
  refine WL.step rfl (Stp.res rfl rfl (Res.move rfl rfl) ?_)
  refine WL.stepG 27 true rfl rfl rfl rfl (Stp.res rfl rfl (Res.move rfl rfl) ?_)
  refine WL.stepG 27 true rfl rfl rfl rfl (Stp.res rfl rfl (Res.move rfl rfl) ?_)
  refine WL.stepG 27 true rfl rfl rfl rfl (Stp.res rfl rfl (Res.add rfl rfl rfl (by omega)) ?_)
  refine WL.stepG 27 true rfl rfl rfl rfl (Stp.res rfl rfl (Res.fieldA rfl rfl Tryz.underlying57 rfl (show SZ Tryz.prog _ 1 from sz3) (by decide)) ?_)
  refine WL.stepG 27 true rfl rfl rfl rfl (Stp.res rfl rfl (Res.load1 (v := .int .i64 ((Seal.amg f 1000 : Nat) : Int)) rfl rfl Tryz.underlying3 rfl (hS.ocell (i := 1) rfl rfl)) ?_)
  refine WL.stepG 27 true rfl rfl rfl rfl (Stp.res rfl rfl (Res.to (Res.geq rfl rfl rfl) p5) ?_)
  refine WL.step rfl (Stp.res rfl rfl (Res.pickT rfl rfl rfl) ?_)
  refine WL.step rfl (Stp.res rfl rfl (Res.move rfl rfl) ?_)
  refine WL.stepG 35 true rfl rfl rfl rfl (Stp.res rfl rfl (Res.move rfl rfl) ?_)
  refine WL.stepG 35 true rfl rfl rfl rfl (Stp.res rfl rfl (Res.fieldA rfl rfl Tryz.underlying57 rfl (show SZ Tryz.prog _ 1 from sz3) (by decide)) ?_)
  refine WL.stepG 35 true rfl rfl rfl rfl (Stp.res rfl rfl (Res.load1 (v := .int .i64 ((Seal.amg u 1000 : Nat) : Int)) rfl rfl Tryz.underlying3 rfl (hS.ocell (i := 1) rfl rfl)) ?_)
  refine WL.stepG 35 true rfl rfl rfl rfl (Stp.res rfl rfl (Res.move rfl rfl) ?_)
  refine WL.stepG 35 true rfl rfl rfl rfl (Stp.res rfl rfl (Res.add rfl rfl rfl (by omega)) ?_)
  refine WL.stepG 35 true rfl rfl rfl rfl (Stp.res rfl rfl (Res.toF (Res.leq rfl rfl rfl) p6) ?_)
  refine WL.step rfl (Stp.res rfl rfl (Res.pickT rfl rfl rfl) ?_)
  refine WL.step rfl (Stp.res rfl rfl (Res.assign rfl rfl) ?_)
  refine WL.nil (Thn_n ?_)
  refine CW.seq ?_
  refine CW.region ?_
  refine WL.step rfl (Stp.res rfl rfl (Res.loadAll (cs := #[Go.E.str c, Go.E.str s, kv, .int .i64 ((Seal.amg f 1000 : Nat) : Int), .int .i64 ((Seal.amg u 1000 : Nat) : Int), .int .i64 e, .int .i64 fl]) rfl rfl Tryz.underlying57 rfl (sz57) (hS.get (i := 1) rfl)) ?_)
  refine WL.step rfl (Stp.res rfl rfl (Res.loadAll (cs := #[Go.E.str ac, .int .i64 ((Seal.amg at_ 1000 : Nat) : Int), .int .i64 no]) rfl rfl Tryz.underlying67 rfl (sz67) (hS.get (i := 0) rfl)) ?_)
  refine WL.step rfl (Stp.res rfl rfl (Res.move rfl rfl) ?_)
  refine WL.step rfl (Stp.res rfl rfl (Res.move rfl rfl) ?_)
  refine WL.step rfl (Stp.res rfl rfl (Res.move rfl rfl) ?_)
  refine WL.step rfl (Stp.callG (args := [_, _, _, _, _]) rfl rfl rfl cal40 rfl rfl hS (judge_ok c s ac svc kv ((Seal.amg f 1000 : Nat) : Int) ((Seal.amg u 1000 : Nat) : Int) e fl ((Seal.amg at_ 1000 : Nat) : Int) no ((Seal.amg now 1000 : Nat) : Int) ((Seal.amg k 100 : Nat) : Int) _ _ hS.on (by omega) (by omega) (by omega) (by omega) (by omega)) ?_)
  rintro _ w _ hS _ ⟨rfl, rfl⟩
  refine WL.step rfl (Stp.res rfl rfl (Res.toF (Res.eql rfl rfl rfl) hj) ?_)
  refine WL.step rfl (Stp.res rfl rfl (Res.move rfl rfl) ?_)
  refine WL.step rfl (Stp.res rfl rfl (Res.toB (Res.eqlBool rfl rfl rfl Tryz.underlying4) rfl) ?_)
  refine WL.step rfl (Stp.res rfl rfl (Res.assign rfl rfl) ?_)
  refine WL.nil (Thn_n ?_)
  refine CW.ret ?_
  exact fq_tmp rfl rfl ⟨M, ((hS.drop (i := 0) rfl hb6).drop (i := 0) rfl hb5).known hG1.1, PH.le.refl _, Fresh.refl _ _, rfl, rfl⟩

theorem law_within6 (c s ac svc : List UInt8) (kv : Value) (f u e fl at_ no now k : Int) (w0 : World) (M : PH) (hM : On M w0) (hgl : GL M) (hf : -9223372036854775808 ≤ f ∧ f ≤ 9223372036854775807) (hu : -9223372036854775808 ≤ u ∧ u ≤ 9223372036854775807) (hat_ : -9223372036854775808 ≤ at_ ∧ at_ ≤ 9223372036854775807) (hnow : -9223372036854775808 ≤ now ∧ now ≤ 9223372036854775807) (hk : -9223372036854775808 ≤ k ∧ k ≤ 9223372036854775807) (p1 : s = svc) (p2 : c = ac) (p3 : ((Seal.amg at_ 1000 : Nat) : Int) - ((Seal.amg now 1000 : Nat) : Int) ≤ ((Seal.amg k 100 : Nat) : Int)) (p4 : ((Seal.amg now 1000 : Nat) : Int) - ((Seal.amg at_ 1000 : Nat) : Int) ≤ ((Seal.amg k 100 : Nat) : Int)) (p5 : ((Seal.amg now 1000 : Nat) : Int) + ((Seal.amg k 100 : Nat) : Int) ≥ ((Seal.amg f 1000 : Nat) : Int)) (p6 : ((Seal.amg now 1000 : Nat) : Int) ≤ ((Seal.amg u 1000 : Nat) : Int) + ((Seal.amg k 100 : Nat) : Int)) : Ok Tryz.prog 9 #[.agg #[Go.E.str c, Go.E.str s, kv, .int .i64 f, .int .i64 u, .int .i64 e, .int .i64 fl], .agg #[Go.E.str ac, .int .i64 at_, .int .i64 no], Go.E.str svc, .int .i64 now, .int .i64 k] w0 M (fun M' r => M = M' ∧ r = .bool true) := by
  have hS := hM.st
  have hf1 := Seal.amg_lt f (n := 1000) (by omega)
  have hu1 := Seal.amg_lt u (n := 1000) (by omega)
  have ha1 := Seal.amg_lt at_ (n := 1000) (by omega)
  have hn1 := Seal.amg_lt now (n := 1000) (by omega)
  have hk1 := Seal.amg_lt k (n := 100) (by omega)
  have hjz := Tick.judge_zero (c := c) (s := s) (ac := ac) (svc := svc) (f := ((Seal.amg f 1000 : Nat) : Int)) (u := ((Seal.amg u 1000 : Nat) : Int)) (at_ := ((Seal.amg at_ 1000 : Nat) : Int)) (now := ((Seal.amg now 1000 : Nat) : Int)) (k := ((Seal.amg k 100 : Nat) : Int)) (by omega)
  have hj := hjz.2 ⟨p1, p2, p3, p4, p5, p6⟩
  refine enterB (l := [.agg #[Go.E.str c, Go.E.str s, kv, .int .i64 f, .int .i64 u, .int .i64 e, .int .i64 fl], .agg #[Go.E.str ac, .int .i64 at_, .int .i64 no], Go.E.str svc, .int .i64 now, .int .i64 k]) 82 Tryz.func9 rfl Tryz.ntmps9 rfl ?_
  refine CW.seq ?_
  refine CW.region ?_
  refine WL.step rfl (Stp.boxA rfl rfl rfl rfl hS ?_)
  intro b5 w hb5 hS hkp hnw
  refine WL.step rfl (Stp.boxA rfl rfl rfl rfl hS ?_)
  intro b6 w hb6 hS hkp hnw
  refine WL.step rfl (Stp.res rfl rfl (Res.assign rfl rfl) ?_)
  refine WL.nil (Thn_n ?_)
  refine CW.seq ?_
  refine CW.seq ?_
  refine CW.region ?_
  refine WL.step rfl (Stp.callG (args := []) rfl rfl rfl cal39 rfl rfl hS (works20_ok _ _ hS.on hgl) ?_)
  rintro _ w M1 hS hG1 rfl
  refine WL.step rfl (Stp.res rfl rfl (Res.not rfl rfl rfl) ?_)
  refine WL.nil (Thn_n ?_)
  refine CW.condF rfl ?_
  refine CW.skip (Thn_n ?_)
  refine CW.seq ?_
  refine CW.region ?_
  refine WL.step rfl (Stp.res rfl rfl (Res.move rfl rfl) ?_)
  refine WL.step rfl (Stp.callA (args := [_, _]) rfl rfl rfl cal42 rfl rfl (among_ok now 1000 (by omega) _) ?_)
  refine WL.step rfl (Stp.res rfl rfl (Res.move rfl rfl) ?_)
  refine WL.step rfl (Stp.callA (args := [_, _]) rfl rfl rfl cal42 rfl rfl (among_ok k 100 (by omega) _) ?_)
  refine WL.step rfl (Stp.res rfl rfl (Res.assign rfl rfl) ?_)
  refine WL.step rfl (Stp.res rfl rfl (Res.assign rfl rfl) ?_)
  refine WL.nil (Thn_n ?_)
  refine CW.seq ?_
  have hS := hS.drew
  have hK0 := And.intro (hS.get (i := 1) rfl) (hS.get (i := 0) rfl)
  refine CW.last (fun w => w.heap[b5]? = some (.cells #[Go.E.str c, Go.E.str s, kv, .int .i64 f, .int .i64 u, .int .i64 e, .int .i64 fl] 57 (0, 0)) ∧ w.heap[b6]? = some (.cells #[Go.E.str ac, .int .i64 at_, .int .i64 no] 67 (0, 0))) [10, 11, 12, 13, 14] mixed ?_
  refine ZL.take 0 rfl (by kernel_rfl) rfl rfl rfl hK0 (fun w hK => Res.fieldA rfl rfl Tryz.underlying57 rfl (show SZ Tryz.prog _ 1 from sz3) (by decide)) ?_
  refine ZL.take 1 rfl (by kernel_rfl) rfl rfl rfl hK0 (fun w hK => Res.load1 (v := .int .i64 f) rfl rfl Tryz.underlying3 rfl (w := w) (by rw [cell_of hK.1]; rfl)) ?_
  refine ZL.take 3 rfl (by kernel_rfl) rfl rfl rfl hK0 (fun w hK => Res.fieldA rfl rfl Tryz.underlying57 rfl (show SZ Tryz.prog _ 1 from sz3) (by decide)) ?_
  refine ZL.take 4 rfl (by kernel_rfl) rfl rfl rfl hK0 (fun w hK => Res.load1 (v := .int .i64 u) rfl rfl Tryz.underlying3 rfl (w := w) (by rw [cell_of hK.1]; rfl)) ?_
  refine ZL.take 6 rfl (by kernel_rfl) rfl rfl rfl hK0 (fun w hK => Res.fieldA rfl rfl Tryz.underlying67 rfl (show SZ Tryz.prog _ 1 from sz3) (by decide)) ?_
  refine ZL.take 7 rfl (by kernel_rfl) rfl rfl rfl hK0 (fun w hK => Res.load1 (v := .int .i64 at_) rfl rfl Tryz.underlying3 rfl (w := w) (by rw [cell_of hK.2]; rfl)) ?_
  refine ZL.one 2 rfl (by kernel_rfl) rfl (Stp.callA (args := [_, _]) rfl rfl rfl cal42 rfl rfl (among_ok f 1000 (by omega) _) ?_)
  skip
  refine ⟨hK0, ?_⟩
  refine ZL.take 9 rfl (by kernel_rfl) rfl rfl rfl hK0 (fun w hK => Res.fieldA rfl rfl Tryz.underlying57 rfl (show SZ Tryz.prog _ 1 from sz3) (by decide)) ?_
  refine ZL.one 5 rfl (by kernel_rfl) rfl (Stp.callA (args := [_, _]) rfl rfl rfl cal42 rfl rfl (among_ok u 1000 (by omega) _) ?_)
  skip
  refine ⟨hK0, ?_⟩
  refine ZL.one 8 rfl (by kernel_rfl) rfl (Stp.callA (args := [_, _]) rfl rfl rfl cal42 rfl rfl (among_ok at_ 1000 (by omega) _) ?_)
  skip
  refine ⟨hK0, ?_⟩
  refine ZL.end 10 (by decide) rfl (by kernel_rfl) rfl (Stp.store1 1 (v := .int .i64 ((Seal.amg f 1000 : Nat) : Int)) rfl rfl rfl sz3 rfl rfl hS rfl (by show 3 < 7; decide) ?_)
  intro w hS hpt
  refine ZL.end 11 (by decide) rfl (by kernel_rfl) rfl (Stp.res rfl rfl (Res.fieldA rfl rfl Tryz.underlying57 rfl (show SZ Tryz.prog _ 1 from sz3) (by decide)) ?_)
  refine ZL.end 12 (by decide) rfl (by kernel_rfl) rfl (Stp.store1 1 (v := .int .i64 ((Seal.amg u 1000 : Nat) : Int)) rfl rfl rfl sz3 rfl rfl hS rfl (by show 4 < 7; decide) ?_)
  intro w hS hpt
  refine ZL.end 13 (by decide) rfl (by kernel_rfl) rfl (Stp.res rfl rfl (Res.fieldA rfl rfl Tryz.underlying67 rfl (show SZ Tryz.prog _ 1 from sz3) (by decide)) ?_)
  refine ZL.end 14 (by decide) rfl (by kernel_rfl) rfl (Stp.store1 0 (v := .int .i64 ((Seal.amg at_ 1000 : Nat) : Int)) rfl rfl rfl sz3 rfl rfl hS rfl (by show 1 < 3; decide) ?_)
  intro w hS hpt
  change St w0 w M1 [(b6, .cells #[Go.E.str ac, .int .i64 ((Seal.amg at_ 1000 : Nat) : Int), .int .i64 no] 67 (0, 0)), (b5, .cells #[Go.E.str c, Go.E.str s, kv, .int .i64 ((Seal.amg f 1000 : Nat) : Int), .int .i64 ((Seal.amg u 1000 : Nat) : Int), .int .i64 e, .int .i64 fl] 57 (0, 0))] at hS
  refine ZL.done (by kernel_rfl) (Thn_n ?_)
  refine CW.seq ?_
  refine CW.region ?_
  refine WL.step rfl (Stp.res rfl rfl (Res.fieldA rfl rfl Tryz.underlying57 rfl (show SZ Tryz.prog _ 1 from sz9) (by decide)) ?_)
  refine WL.step rfl (Stp.res rfl rfl (Res.load1 (v := Go.E.str s) rfl rfl Tryz.underlying9 rfl (hS.ocell (i := 1) rfl rfl)) ?_)
  refine WL.step rfl (Stp.res rfl rfl (Res.move rfl rfl) ?_)
  refine WL.step rfl (Stp.res rfl rfl (Res.to (Res.eqlS rfl rfl rfl) p1) ?_)
  refine WL.step rfl (Stp.res rfl rfl (Res.move rfl rfl) ?_)
  refine WL.stepG 4 true rfl rfl rfl rfl (Stp.res rfl rfl (Res.fieldA rfl rfl Tryz.underlying57 rfl (show SZ Tryz.prog _ 1 from sz9) (by decide)) ?_)
  refine WL.stepG 4 true rfl rfl rfl rfl (Stp.res rfl rfl (Res.load1 (v := Go.E.str c) rfl rfl Tryz.underlying9 rfl (hS.ocell (i := 1) rfl rfl)) ?_)
  refine WL.stepG 4 true rfl rfl rfl rfl (Stp.res rfl rfl (Res.fieldA rfl rfl Tryz.underlying67 rfl (show SZ Tryz.prog _ 1 from sz9) (by decide)) ?_)
  refine WL.stepG 4 true rfl rfl rfl rfl (Stp.res rfl rfl (Res.load1 (v := Go.E.str ac) rfl rfl Tryz.underlying9 rfl (hS.ocell (i := 0) rfl rfl)) ?_)
  refine WL.stepG 4 true rfl rfl rfl rfl (Stp.res rfl rfl (Res.to (Res.eqlS rfl rfl rfl) p2) ?_)
  refine WL.step rfl (Stp.res rfl rfl (Res.pickT rfl rfl rfl) ?_)
  refine WL.step rfl (Stp.res rfl rfl (Res.move rfl rfl) ?_)
  refine WL.stepG 11 true rfl rfl rfl rfl (Stp.res rfl rfl (Res.fieldA rfl rfl Tryz.underlying67 rfl (show SZ Tryz.prog _ 1 from sz3) (by decide)) ?_)
  refine WL.stepG 11 true rfl rfl rfl rfl (Stp.res rfl rfl (Res.load1 (v := .int .i64 ((Seal.amg at_ 1000 : Nat) : Int)) rfl rfl Tryz.underlying3 rfl (hS.ocell (i := 0) rfl rfl)) ?_)
  refine WL.stepG 11 true rfl rfl rfl rfl (Stp.res rfl rfl (Res.move rfl rfl) ?_)
  refine WL.stepG 11 true rfl rfl rfl rfl (Stp.res rfl rfl (Res.sub rfl rfl rfl (by omega)) ?_)
  refine WL.stepG 11 true rfl rfl rfl rfl (Stp.res rfl rfl (Res.move rfl rfl) ?_)
  refine WL.stepG 11 true rfl rfl rfl rfl (Stp.res rfl rfl (Res.to (Res.leq rfl rfl rfl) p3) ?_)
  refine WL.step rfl (Stp.res rfl rfl (Res.pickT rfl rfl rfl) ?_)
  refine WL.step rfl (Stp.res rfl rfl (Res.move rfl rfl) ?_)
  refine WL.stepG 19 true rfl rfl rfl rfl (Stp.res rfl rfl (Res.move rfl rfl) ?_)
  refine WL.stepG 19 true rfl rfl rfl rfl (Stp.res rfl rfl (Res.fieldA rfl rfl Tryz.underlying67 rfl (show SZ Tryz.prog _ 1 from sz3) (by decide)) ?_)
  refine WL.stepG 19 true rfl rfl rfl rfl (Stp.res rfl rfl (Res.load1 (v := .int .i64 ((Seal.amg at_ 1000 : Nat) : Int)) rfl rfl Tryz.underlying3 rfl (hS.ocell (i := 0) rfl rfl)) ?_)
  refine WL.stepG 19 true rfl rfl rfl rfl (Stp.res rfl rfl (Res.sub rfl rfl rfl (by omega)) ?_)
  refine WL.stepG 19 true rfl rfl rfl rfl (Stp.res rfl rfl (Res.move rfl rfl) ?_)
  refine WL.stepG 19 true rfl rfl rfl rfl (Stp.res rfl rfl (Res.to (Res.leq rfl rfl rfl) p4) ?_)
  refine WL.step rfl (Stp.res rfl rfl (Res.pickT rfl rfl rfl) ?_)
  refine WL.step rfl (Stp.res rfl rfl (Res.move rfl rfl) ?_)
  refine WL.stepG 27 true rfl rfl rfl rfl (Stp.res rfl rfl (Res.move rfl rfl) ?_)
  refine WL.stepG 27 true rfl rfl rfl rfl (Stp.res rfl rfl (Res.move rfl rfl) ?_)
  refine WL.stepG 27 true rfl rfl rfl rfl (Stp.res rfl rfl (Res.add rfl rfl rfl (by omega)) ?_)
  refine WL.stepG 27 true rfl rfl rfl rfl (Stp.res rfl rfl (Res.fieldA rfl rfl Tryz.underlying57 rfl (show SZ Tryz.prog _ 1 from sz3) (by decide)) ?_)
  refine WL.stepG 27 true rfl rfl rfl rfl (Stp.res rfl rfl (Res.load1 (v := .int .i64 ((Seal.amg f 1000 : Nat) : Int)) rfl rfl Tryz.underlying3 rfl (hS.ocell (i := 1) rfl rfl)) ?_)
  refine WL.stepG 27 true rfl rfl rfl rfl (Stp.res rfl rfl (Res.to (Res.geq rfl rfl rfl) p5) ?_)
  refine WL.step rfl (Stp.res rfl rfl (Res.pickT rfl rfl rfl) ?_)
  refine WL.step rfl (Stp.res rfl rfl (Res.move rfl rfl) ?_)
  refine WL.stepG 35 true rfl rfl rfl rfl (Stp.res rfl rfl (Res.move rfl rfl) ?_)
  refine WL.stepG 35 true rfl rfl rfl rfl (Stp.res rfl rfl (Res.fieldA rfl rfl Tryz.underlying57 rfl (show SZ Tryz.prog _ 1 from sz3) (by decide)) ?_)
  refine WL.stepG 35 true rfl rfl rfl rfl (Stp.res rfl rfl (Res.load1 (v := .int .i64 ((Seal.amg u 1000 : Nat) : Int)) rfl rfl Tryz.underlying3 rfl (hS.ocell (i := 1) rfl rfl)) ?_)
  refine WL.stepG 35 true rfl rfl rfl rfl (Stp.res rfl rfl (Res.move rfl rfl) ?_)
  refine WL.stepG 35 true rfl rfl rfl rfl (Stp.res rfl rfl (Res.add rfl rfl rfl (by omega)) ?_)
  refine WL.stepG 35 true rfl rfl rfl rfl (Stp.res rfl rfl (Res.to (Res.leq rfl rfl rfl) p6) ?_)
  refine WL.step rfl (Stp.res rfl rfl (Res.pickT rfl rfl rfl) ?_)
  refine WL.step rfl (Stp.res rfl rfl (Res.assign rfl rfl) ?_)
  refine WL.nil (Thn_n ?_)
  refine CW.seq ?_
  refine CW.region ?_
  refine WL.step rfl (Stp.res rfl rfl (Res.loadAll (cs := #[Go.E.str c, Go.E.str s, kv, .int .i64 ((Seal.amg f 1000 : Nat) : Int), .int .i64 ((Seal.amg u 1000 : Nat) : Int), .int .i64 e, .int .i64 fl]) rfl rfl Tryz.underlying57 rfl (sz57) (hS.get (i := 1) rfl)) ?_)
  refine WL.step rfl (Stp.res rfl rfl (Res.loadAll (cs := #[Go.E.str ac, .int .i64 ((Seal.amg at_ 1000 : Nat) : Int), .int .i64 no]) rfl rfl Tryz.underlying67 rfl (sz67) (hS.get (i := 0) rfl)) ?_)
  refine WL.step rfl (Stp.res rfl rfl (Res.move rfl rfl) ?_)
  refine WL.step rfl (Stp.res rfl rfl (Res.move rfl rfl) ?_)
  refine WL.step rfl (Stp.res rfl rfl (Res.move rfl rfl) ?_)
  refine WL.step rfl (Stp.callG (args := [_, _, _, _, _]) rfl rfl rfl cal40 rfl rfl hS (judge_ok c s ac svc kv ((Seal.amg f 1000 : Nat) : Int) ((Seal.amg u 1000 : Nat) : Int) e fl ((Seal.amg at_ 1000 : Nat) : Int) no ((Seal.amg now 1000 : Nat) : Int) ((Seal.amg k 100 : Nat) : Int) _ _ hS.on (by omega) (by omega) (by omega) (by omega) (by omega)) ?_)
  rintro _ w _ hS _ ⟨rfl, rfl⟩
  refine WL.step rfl (Stp.res rfl rfl (Res.to (Res.eql rfl rfl rfl) hj) ?_)
  refine WL.step rfl (Stp.res rfl rfl (Res.move rfl rfl) ?_)
  refine WL.step rfl (Stp.res rfl rfl (Res.toB (Res.eqlBool rfl rfl rfl Tryz.underlying4) rfl) ?_)
  refine WL.step rfl (Stp.res rfl rfl (Res.assign rfl rfl) ?_)
  refine WL.nil (Thn_n ?_)
  refine CW.ret ?_
  exact fq_tmp rfl rfl ⟨M, ((hS.drop (i := 0) rfl hb6).drop (i := 0) rfl hb5).known hG1.1, PH.le.refl _, Fresh.refl _ _, rfl, rfl⟩

theorem law_within (c s ac svc : List UInt8) (kv : Value) (f u e fl at_ no now k : Int) (w0 : World) (M : PH) (hM : On M w0) (hgl : GL M) (hf : -9223372036854775808 ≤ f ∧ f ≤ 9223372036854775807) (hu : -9223372036854775808 ≤ u ∧ u ≤ 9223372036854775807) (hat_ : -9223372036854775808 ≤ at_ ∧ at_ ≤ 9223372036854775807) (hnow : -9223372036854775808 ≤ now ∧ now ≤ 9223372036854775807) (hk : -9223372036854775808 ≤ k ∧ k ≤ 9223372036854775807) : Ok Tryz.prog 9 #[.agg #[Go.E.str c, Go.E.str s, kv, .int .i64 f, .int .i64 u, .int .i64 e, .int .i64 fl], .agg #[Go.E.str ac, .int .i64 at_, .int .i64 no], Go.E.str svc, .int .i64 now, .int .i64 k] w0 M (fun M' r => M = M' ∧ r = .bool true) := by
  by_cases p1 : s = svc
  · skip
    by_cases p2 : c = ac
    · skip
      by_cases p3 : ((Seal.amg at_ 1000 : Nat) : Int) - ((Seal.amg now 1000 : Nat) : Int) ≤ ((Seal.amg k 100 : Nat) : Int)
      · skip
        by_cases p4 : ((Seal.amg now 1000 : Nat) : Int) - ((Seal.amg at_ 1000 : Nat) : Int) ≤ ((Seal.amg k 100 : Nat) : Int)
        · skip
          by_cases p5 : ((Seal.amg now 1000 : Nat) : Int) + ((Seal.amg k 100 : Nat) : Int) ≥ ((Seal.amg f 1000 : Nat) : Int)
          · skip
            by_cases p6 : ((Seal.amg now 1000 : Nat) : Int) ≤ ((Seal.amg u 1000 : Nat) : Int) + ((Seal.amg k 100 : Nat) : Int)
            · skip
              exact law_within6 c s ac svc kv f u e fl at_ no now k w0 M hM hgl hf hu hat_ hnow hk p1 p2 p3 p4 p5 p6
            · exact law_within5 c s ac svc kv f u e fl at_ no now k w0 M hM hgl hf hu hat_ hnow hk p1 p2 p3 p4 p5 p6
          · exact law_within4 c s ac svc kv f u e fl at_ no now k w0 M hM hgl hf hu hat_ hnow hk p1 p2 p3 p4 p5
        · exact law_within3 c s ac svc kv f u e fl at_ no now k w0 M hM hgl hf hu hat_ hnow hk p1 p2 p3 p4
      · exact law_within2 c s ac svc kv f u e fl at_ no now k w0 M hM hgl hf hu hat_ hnow hk p1 p2 p3
    · exact law_within1 c s ac svc kv f u e fl at_ no now k w0 M hM hgl hf hu hat_ hnow hk p1 p2
  · exact law_within0 c s ac svc kv f u e fl at_ no now k w0 M hM hgl hf hu hat_ hnow hk p1
end Go.Proofs.YtcmgimicdcchlaaGreatDoor
