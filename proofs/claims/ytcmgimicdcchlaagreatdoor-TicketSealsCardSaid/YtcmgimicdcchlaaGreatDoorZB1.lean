/- Lemmas on the way to the statement; no condition of its own. -/
import Derived.Test.YtcmgimicdcchlaaGreatDoorZB0
set_option linter.unusedVariables false
set_option maxRecDepth 20000
namespace Go.Proofs.YtcmgimicdcchlaaGreatDoor
open Go.Proofs.Tryz
open Go Go.E
theorem rname_yes (l : List UInt8) (h : 1 ≤ l.length) (w : World) : Calls Tryz.prog 116 #[Go.E.str l] w fun e w' => ∃ v, e = .returned v ∧ v = .bool (decide (Tick.okName l)) ∧ w' = w := by
  refine enter (l := [Go.E.str l]) 11 func116 rfl ntmps116 rfl ?_
  refine CW.seq ?_
  refine CW.region ?_
  refine WL.step rfl (Stp.res rfl rfl (Res.assign rfl rfl) ?_)
  refine WL.nil (Thn_n ?_)
  refine CW.seq ?_
  refine CW.region ?_
  refine WL.step rfl (Stp.res rfl rfl (Res.move rfl rfl) ?_)
  refine WL.step rfl (Stp.res rfl rfl (Res.cast (Res.lenStr rfl rfl rfl rfl underlying9) (v' := .int .i64 (l.length : Int)) (by simp [ByteArray.size])) ?_)
  refine WL.step rfl (Stp.res rfl rfl (Res.to (Res.geq rfl rfl rfl) (by omega)) ?_)
  refine WL.step rfl (Stp.res rfl rfl (Res.move rfl rfl) ?_)
  refine WL.stepG 3 true rfl rfl rfl rfl (Stp.res rfl rfl (Res.move rfl rfl) ?_)
  refine WL.stepG 3 true rfl rfl rfl rfl (Stp.res rfl rfl (Res.cast (Res.lenStr rfl rfl rfl rfl underlying9) (v' := .int .i64 (l.length : Int)) (by simp [ByteArray.size])) ?_)
  refine WL.stepG 3 true rfl rfl rfl rfl (Stp.res rfl rfl (Res.leq rfl rfl rfl) ?_)
  refine WL.step rfl (Stp.res rfl rfl (Res.pickT rfl rfl rfl) ?_)
  refine WL.step rfl (Stp.res rfl rfl (Res.assign rfl rfl) ?_)
  refine WL.nil (Thn_n ?_)
  refine CW.ret ?_
  exact fq_tmp rfl rfl ⟨by rw [show decide (Tick.okName l) = decide ((l.length : Int) ≤ 32) from decide_eq_decide.2 ⟨fun h2 => by have := h2.2; omega, fun h2 => ⟨h, by omega⟩⟩], rfl⟩
theorem rtime_yes (n : Int) (h : 0 ≤ n) (w : World) : Calls Tryz.prog 117 #[.int .i64 n] w fun e w' => ∃ v, e = .returned v ∧ v = .bool (decide (Tick.okTime n)) ∧ w' = w := by
  refine enter (l := [.int .i64 n]) 9 func117 rfl ntmps117 rfl ?_
  refine CW.seq ?_
  refine CW.region ?_
  refine WL.step rfl (Stp.res rfl rfl (Res.assign rfl rfl) ?_)
  refine WL.nil (Thn_n ?_)
  refine CW.seq ?_
  refine CW.region ?_
  refine WL.step rfl (Stp.res rfl rfl (Res.move rfl rfl) ?_)
  refine WL.step rfl (Stp.res rfl rfl (Res.to (Res.geq rfl rfl rfl) h) ?_)
  refine WL.step rfl (Stp.res rfl rfl (Res.move rfl rfl) ?_)
  refine WL.stepG 2 true rfl rfl rfl rfl (Stp.res rfl rfl (Res.move rfl rfl) ?_)
  refine WL.stepG 2 true rfl rfl rfl rfl (Stp.res rfl rfl (Res.leq rfl rfl rfl) ?_)
  refine WL.step rfl (Stp.res rfl rfl (Res.pickT rfl rfl rfl) ?_)
  refine WL.step rfl (Stp.res rfl rfl (Res.assign rfl rfl) ?_)
  refine WL.nil (Thn_n ?_)
  refine CW.ret ?_
  exact fq_tmp rfl rfl ⟨by rw [show decide (Tick.okTime n) = decide (n ≤ 1099511627776) from decide_eq_decide.2 ⟨fun h2 => h2.2, fun h2 => ⟨h, h2⟩⟩], rfl⟩
theorem rname_no (l : List UInt8) (h : ¬ 1 ≤ l.length) (w : World) : Calls Tryz.prog 116 #[Go.E.str l] w fun e w' => ∃ v, e = .returned v ∧ v = .bool (decide (Tick.okName l)) ∧ w' = w := by
  refine enter (l := [Go.E.str l]) 11 func116 rfl ntmps116 rfl ?_
  refine CW.seq ?_
  refine CW.region ?_
  refine WL.step rfl (Stp.res rfl rfl (Res.assign rfl rfl) ?_)
  refine WL.nil (Thn_n ?_)
  refine CW.seq ?_
  refine CW.region ?_
  refine WL.step rfl (Stp.res rfl rfl (Res.move rfl rfl) ?_)
  refine WL.step rfl (Stp.res rfl rfl (Res.cast (Res.lenStr rfl rfl rfl rfl underlying9) (v' := .int .i64 (l.length : Int)) (by simp [ByteArray.size])) ?_)
  refine WL.step rfl (Stp.res rfl rfl (Res.toF (Res.geq rfl rfl rfl) (by omega)) ?_)
  refine WL.step rfl (Stp.res rfl rfl (Res.move rfl rfl) ?_)
  refine WL.skipG 3 true rfl rfl rfl rfl rfl rfl ?_
  refine WL.skipG 3 true rfl rfl rfl rfl rfl rfl ?_
  refine WL.skipG 3 true rfl rfl rfl rfl rfl rfl ?_
  refine WL.step rfl (Stp.res rfl rfl (Res.pickF rfl rfl rfl) ?_)
  refine WL.step rfl (Stp.res rfl rfl (Res.assign rfl rfl) ?_)
  refine WL.nil (Thn_n ?_)
  refine CW.ret ?_
  exact fq_tmp rfl rfl ⟨by rw [decide_eq_false (fun h2 : Tick.okName l => h h2.1)], rfl⟩
theorem rtime_no (n : Int) (h : ¬ 0 ≤ n) (w : World) : Calls Tryz.prog 117 #[.int .i64 n] w fun e w' => ∃ v, e = .returned v ∧ v = .bool (decide (Tick.okTime n)) ∧ w' = w := by
  refine enter (l := [.int .i64 n]) 9 func117 rfl ntmps117 rfl ?_
  refine CW.seq ?_
  refine CW.region ?_
  refine WL.step rfl (Stp.res rfl rfl (Res.assign rfl rfl) ?_)
  refine WL.nil (Thn_n ?_)
  refine CW.seq ?_
  refine CW.region ?_
  refine WL.step rfl (Stp.res rfl rfl (Res.move rfl rfl) ?_)
  refine WL.step rfl (Stp.res rfl rfl (Res.toF (Res.geq rfl rfl rfl) h) ?_)
  refine WL.step rfl (Stp.res rfl rfl (Res.move rfl rfl) ?_)
  refine WL.skipG 2 true rfl rfl rfl rfl rfl rfl ?_
  refine WL.skipG 2 true rfl rfl rfl rfl rfl rfl ?_
  refine WL.step rfl (Stp.res rfl rfl (Res.pickF rfl rfl rfl) ?_)
  refine WL.step rfl (Stp.res rfl rfl (Res.assign rfl rfl) ?_)
  refine WL.nil (Thn_n ?_)
  refine CW.ret ?_
  exact fq_tmp rfl rfl ⟨by rw [decide_eq_false (fun h2 : Tick.okTime n => h h2.1)], rfl⟩
theorem rname_ok (l : List UInt8) (w : World) : Calls Tryz.prog 116 #[Go.E.str l] w fun e w' => ∃ v, e = .returned v ∧ v = .bool (decide (Tick.okName l)) ∧ w' = w := by
  by_cases h : 1 ≤ l.length
  · exact rname_yes l h w
  · exact rname_no l h w
theorem rtime_ok (n : Int) (w : World) : Calls Tryz.prog 117 #[.int .i64 n] w fun e w' => ∃ v, e = .returned v ∧ v = .bool (decide (Tick.okTime n)) ∧ w' = w := by
  by_cases h : 0 ≤ n
  · exact rtime_yes n h w
  · exact rtime_no n h w
theorem rright_y (c : List UInt8) (t z : Int) (w0 : World) (M : PH) (hM : On M w0) (h : Tick.okName c) : Ok Tryz.prog 89 #[.agg #[Go.E.str c, .int .i64 t, .int .i64 z]] w0 M (fun M' r => M = M' ∧ r = .bool (decide (Tick.okAuth c t))) := by
  have hS := hM.st
  refine enterB (l := [.agg #[Go.E.str c, .int .i64 t, .int .i64 z]]) 11 func89 rfl ntmps89 rfl ?_
  refine CW.seq ?_
  refine CW.region ?_
  refine WL.step rfl (Stp.boxA rfl rfl rfl rfl hS ?_)
  intro b1 w hb1 hS hkp hnw
  refine WL.step rfl (Stp.res rfl rfl (Res.assign rfl rfl) ?_)
  refine WL.nil (Thn_n ?_)
  refine CW.seq ?_
  refine CW.region ?_
  refine WL.step rfl (Stp.res rfl rfl (Res.fieldA rfl rfl underlying67 rfl (show SZ Tryz.prog _ 1 from sz9) (by decide)) ?_)
  refine WL.step rfl (Stp.res rfl rfl (Res.load1 (v := Go.E.str c) rfl rfl underlying9 rfl (hS.ocell (i := 0) rfl rfl)) ?_)
  refine WL.step rfl (Stp.callA (args := [_]) rfl rfl rfl cal116 rfl rfl (rname_ok c _) ?_)
  rw [decide_eq_true h]
  refine WL.step rfl (Stp.res rfl rfl (Res.move rfl rfl) ?_)
  refine WL.stepG 3 true rfl rfl rfl rfl (Stp.res rfl rfl (Res.fieldA rfl rfl underlying67 rfl (show SZ Tryz.prog _ 1 from sz3) (by decide)) ?_)
  refine WL.stepG 3 true rfl rfl rfl rfl (Stp.res rfl rfl (Res.load1 (v := .int .i64 t) rfl rfl underlying3 rfl (hS.ocell (i := 0) rfl rfl)) ?_)
  refine WL.stepG 3 true rfl rfl rfl rfl (Stp.callA (args := [_]) rfl rfl rfl cal117 rfl rfl (rtime_ok t _) ?_)
  refine WL.step rfl (Stp.res rfl rfl (Res.pickT rfl rfl rfl) ?_)
  refine WL.step rfl (Stp.res rfl rfl (Res.assign rfl rfl) ?_)
  refine WL.nil (Thn_n ?_)
  refine CW.ret ?_
  refine fq_tmp rfl rfl ⟨M, hS.drop (i := 0) rfl hb1, PH.le.refl _, Fresh.refl _ _, rfl, ?_⟩
  rw [decide_eq_decide.2 (show Tick.okAuth c t ↔ Tick.okTime t from ⟨fun h2 => h2.2, fun h2 => ⟨h, h2⟩⟩)]
theorem rright_n (c : List UInt8) (t z : Int) (w0 : World) (M : PH) (hM : On M w0) (h : ¬ Tick.okName c) : Ok Tryz.prog 89 #[.agg #[Go.E.str c, .int .i64 t, .int .i64 z]] w0 M (fun M' r => M = M' ∧ r = .bool (decide (Tick.okAuth c t))) := by
  have hS := hM.st
  refine enterB (l := [.agg #[Go.E.str c, .int .i64 t, .int .i64 z]]) 11 func89 rfl ntmps89 rfl ?_
  refine CW.seq ?_
  refine CW.region ?_
  refine WL.step rfl (Stp.boxA rfl rfl rfl rfl hS ?_)
  intro b1 w hb1 hS hkp hnw
  refine WL.step rfl (Stp.res rfl rfl (Res.assign rfl rfl) ?_)
  refine WL.nil (Thn_n ?_)
  refine CW.seq ?_
  refine CW.region ?_
  refine WL.step rfl (Stp.res rfl rfl (Res.fieldA rfl rfl underlying67 rfl (show SZ Tryz.prog _ 1 from sz9) (by decide)) ?_)
  refine WL.step rfl (Stp.res rfl rfl (Res.load1 (v := Go.E.str c) rfl rfl underlying9 rfl (hS.ocell (i := 0) rfl rfl)) ?_)
  refine WL.step rfl (Stp.callA (args := [_]) rfl rfl rfl cal116 rfl rfl (rname_ok c _) ?_)
  rw [decide_eq_false h]
  refine WL.step rfl (Stp.res rfl rfl (Res.move rfl rfl) ?_)
  refine WL.skipG 3 true rfl rfl rfl rfl rfl rfl ?_
  refine WL.skipG 3 true rfl rfl rfl rfl rfl rfl ?_
  refine WL.skipG 3 true rfl rfl rfl rfl rfl rfl ?_
  refine WL.step rfl (Stp.res rfl rfl (Res.pickF rfl rfl rfl) ?_)
  refine WL.step rfl (Stp.res rfl rfl (Res.assign rfl rfl) ?_)
  refine WL.nil (Thn_n ?_)
  refine CW.ret ?_
  refine fq_tmp rfl rfl ⟨M, hS.drop (i := 0) rfl hb1, PH.le.refl _, Fresh.refl _ _, rfl, ?_⟩
  rw [decide_eq_false (fun h2 : Tick.okAuth c t => h h2.1)]
theorem rright_ok (c : List UInt8) (t z : Int) (w0 : World) (M : PH) (hM : On M w0) : Ok Tryz.prog 89 #[.agg #[Go.E.str c, .int .i64 t, .int .i64 z]] w0 M (fun M' r => M = M' ∧ r = .bool (decide (Tick.okAuth c t))) := by
  by_cases h : Tick.okName c
  · exact rright_y c t z w0 M hM h
  · exact rright_n c t z w0 M hM h
theorem rint_ok (n : Int) (w0 : World) (M : PH) (hM : On M w0) (hn : Tick.inI n) : Ok Tryz.prog 80 #[.int .i64 n] w0 M (fun M' r => Bs M' r (Tick.be8 (Tick.bits n))) := by
  have hS := hM.st
  refine enterB (l := [.int .i64 n]) 22 func80 rfl ntmps80 rfl ?_
  refine CW.seq ?_
  refine CW.region ?_
  refine WL.step rfl (Stp.res rfl rfl (Res.assign rfl rfl) ?_)
  refine WL.nil (Thn_n ?_)
  refine CW.seq ?_
  refine CW.region ?_
  refine WL.step rfl (Stp.makeB (k := 8) (c := 8) rfl rfl rfl et30 ⟨Nat.le_refl 8, by decide⟩ rfl rfl hS ?_)
  intro b6 w hb6 hS hkp hnw
  rw [Tick.back_zero (Tick.bits n)] at hS
  refine WL.step rfl (Stp.res rfl rfl (Res.assign rfl rfl) ?_)
  refine WL.nil (Thn_n ?_)
  refine CW.seq ?_
  refine CW.region ?_
  refine WL.step rfl (Stp.res rfl rfl (Res.move rfl rfl) ?_)
  refine WL.step rfl (Stp.res rfl rfl (Res.cast (Res.conv (k := .u64) rfl rfl underlying3 underlying124) (v' := .int .u64 ((Tick.bits n / 256 ^ 0 : Nat) : Int)) (by rw [uk64.wrapI, Nat.pow_zero, Nat.div_one]; congr 1; unfold Tick.bits; omega)) ?_)
  refine WL.step rfl (Stp.res rfl rfl (Res.assign rfl rfl) ?_)
  refine WL.nil (Thn_n ?_)
  refine CW.seq ?_
  refine CW.seq ?_
  refine CW.region ?_
  refine WL.step rfl (Stp.res rfl rfl (Res.assign rfl rfl) ?_)
  refine WL.nil (Thn_n ?_)
  refine CW.block ?_
  refine CW.loop (σ := Nat) (fun k => [(3, .slice (some ⟨b6, 0, none⟩) 8 8), (4, .int .u64 ((Tick.bits n / 256 ^ k : Nat) : Int)), (5, .int .i64 (7 - (k : Int)))])
    (fun k w' => k ≤ 8 ∧ St w0 w' M [(b6, .cells (bs (List.replicate (8 - k) 0 ++ (Tick.be8 (Tick.bits n)).drop (8 - k))) 5 (0, 0))]) (fun k => 8 - k) 0 ⟨rfl, rfl, intc (by omega), trivial⟩ ⟨by omega, hS⟩ ?_
  rintro k w1 ⟨hk, hS⟩
  refine CW.seq ?_
  refine CW.seq ?_
  refine CW.region ?_
  refine WL.step rfl (Stp.res rfl rfl (Res.move rfl rfl) ?_)
  refine WL.step rfl (Stp.res rfl rfl (Res.geq rfl rfl rfl) ?_)
  refine WL.nil (Thn_n ?_)
  refine CW.ite rfl (fun h => ?_) (fun h => ?_)
  · have hlt : k < 8 := by omega
    refine CW.skip (Thn_n ?_)
    refine CW.seq ?_
    refine CW.block ?_
    refine CW.seq ?_
    refine CW.region ?_
    refine WL.step rfl (Stp.res rfl rfl (Res.move rfl rfl) ?_)
    refine WL.step rfl (Stp.res rfl rfl (Res.move rfl rfl) ?_)
    refine WL.step rfl (Stp.res rfl rfl (Res.move rfl rfl) ?_)
    refine WL.step rfl (Stp.res rfl rfl (Res.remU (a := Tick.bits n / 256 ^ k) (b := 256) rfl rfl rfl (by decide)) ?_)
    refine WL.step rfl (Stp.res rfl rfl (Res.convB (k := Tick.bits n / 256 ^ k % 256) rfl rfl underlying124 underlying5) ?_)
    refine WL.step rfl (Stp.res rfl rfl (Res.idxS0 (k := 7 - k) rfl rfl rfl underlying30 sz5 (by omega) (by omega)) ?_)
    refine WL.step rfl (Stp.storeB 0 rfl rfl rfl sz5 rfl hS rfl (by rw [Tick.back_len _ _ (by omega)]; omega) ?_)
    intro w hS hpt
    rw [Tick.back_step _ hlt] at hS
    refine WL.nil (Thn_n ?_)
    refine CW.region ?_
    refine WL.step rfl (Stp.res rfl rfl (Res.move rfl rfl) ?_)
    refine WL.step rfl (Stp.res rfl rfl (Res.cast (Res.quoU (m := 18446744073709551616) uk64 (a := Tick.bits n / 256 ^ k) (b := 256) rfl rfl rfl ⟨by decide, Nat.lt_of_le_of_lt (Nat.div_le_self _ _) (Tick.bits_lt n)⟩) (v' := .int .u64 ((Tick.bits n / 256 ^ (k + 1) : Nat) : Int)) (by rw [Nat.div_div_eq_div_mul, Nat.pow_succ])) ?_)
    refine WL.step rfl (Stp.res rfl rfl (Res.assign rfl rfl) ?_)
    refine WL.nil (Blk_n (Thn_n ?_))
    refine CW.region ?_
    refine WL.step rfl (Stp.res rfl rfl (Res.move rfl rfl) ?_)
    refine WL.step rfl (Stp.res rfl rfl (Res.sub rfl rfl rfl (by omega)) ?_)
    refine WL.step rfl (Stp.res rfl rfl (Res.assign rfl rfl) ?_)
    refine WL.nil (Thn_n ?_)
    exact ⟨k + 1, ⟨rfl, rfl, intc (by omega), trivial⟩, ⟨by omega, hS⟩, by omega⟩
  · obtain rfl : k = 8 := by omega
    refine CW.exit (Thn_x (Thn_x (Blk_x (Thn_n ?_))))
    refine CW.seq ?_
    refine CW.region ?_
    refine WL.step rfl (Stp.res rfl rfl (Res.move rfl rfl) ?_)
    refine WL.step rfl (Stp.res rfl rfl (Res.assign rfl rfl) ?_)
    refine WL.nil (Thn_n ?_)
    refine CW.ret ?_
    rw [Tick.back_all] at hS
    have hF := hS.freezeG (i := 0) rfl hb6
    exact fq_tmp rfl rfl ⟨_, hF.1, hF.2.1, hF.2.2, Bs.of' (PH.add_self _ _ _) (Tick.be8_length _) (by omega)⟩
end Go.Proofs.YtcmgimicdcchlaaGreatDoor
