/- Own text of this seat (QY): lemmas on the way to the statement; no condition of its own. -/
import Derived.Test.YtcmgimicdcchlaaGreatDoorQV
import Derived.Test.YtcmgimicdcchlaaGreatDoorQW
set_option linter.unusedVariables false
set_option maxRecDepth 20000
namespace Go.Proofs.YtcmgimicdcchlaaGreatDoor
open Go Go.E
end Go.Proofs.YtcmgimicdcchlaaGreatDoor
set_option linter.unusedVariables false
set_option maxRecDepth 20000
namespace Go.Proofs.YtcmgimicdcchlaaGreatDoor
open Go Go.E
theorem law_answers_no (key conf c d : List UInt8) (t z t2 z2 : Int) (w0 : World) (M : PH) (hM : On M w0) (hgl : GL M) (hk : key.length = 16) (hcf : conf.length = 16) (ht : Tick.inI t) (hz : Tick.inI z) (ht2 : Tick.inI t2) (hz2 : Tick.inI z2) (hok : ¬ Tick.okAuth (c.take 100) t) : Ok Tryz.prog 12 #[.agg (bs key), .agg (bs conf), .agg #[Go.E.str c, .int .i64 t, .int .i64 z], .agg #[Go.E.str d, .int .i64 t2, .int .i64 z2]] w0 M (fun M' r => r = .bool true) := by
  have hS := hM.st
  have hg11 : Seal.Good key 11 := ⟨hk, by decide, by decide⟩
  have hg12 : Seal.Good key 12 := ⟨hk, by decide, by decide⟩
  refine enterB (l := [.agg (bs key), .agg (bs conf), .agg #[Go.E.str c, .int .i64 t, .int .i64 z], .agg #[Go.E.str d, .int .i64 t2, .int .i64 z2]]) 106 Tryz.func12 rfl Tryz.ntmps12 rfl ?_
  refine CW.seq ?_
  refine CW.region ?_
  refine WL.step rfl (Stp.boxA rfl rfl rfl rfl hS ?_)
  intro b4 w hb4 hS hkp hnw
  refine WL.step rfl (Stp.boxA rfl rfl rfl rfl hS ?_)
  intro b5 w hb5 hS hkp hnw
  refine WL.step rfl (Stp.boxA rfl rfl rfl rfl hS ?_)
  intro b6 w hb6 hS hkp hnw
  refine WL.step rfl (Stp.boxA rfl rfl rfl rfl hS ?_)
  intro b7 w hb7 hS hkp hnw
  refine WL.step rfl (Stp.res rfl rfl (Res.assign rfl rfl) ?_)
  refine WL.nil (Thn_n ?_)
  refine CW.seq ?_
  refine CW.seq ?_
  obtain ⟨M1, hG1, hbk, hbc, hS⟩ : ∃ M1, Grow w0.heap.size M M1 ∧ Bs M1 (.slice (some ⟨b4, 0, none⟩) 16 16) key ∧ Bs M1 (.slice (some ⟨b5, 0, none⟩) 16 16) conf ∧ St w0 w M1 [(b7, .cells #[Go.E.str d, .int .i64 t2, .int .i64 z2] 67 (0, 0)), (b6, .cells #[Go.E.str c, .int .i64 t, .int .i64 z] 67 (0, 0))] := by
    have hF := hS.freezeG (i := 3) rfl hb4
    have hF2 := hF.1.freezeG (i := 2) rfl hb5
    exact ⟨_, hF.2.trans hF2.2, (Bs.of' (PH.add_self _ _ _) hk (by omega)).mono hF2.2.1, Bs.of' (PH.add_self _ _ _) hcf (by omega), hF2.1⟩
  refine CW.region ?_
  refine WL.step rfl (Stp.callG (args := []) rfl rfl rfl cal39 rfl rfl hS (works20_ok _ _ hS.on (hgl.mono hG1.1)) ?_)
  rintro _ w M2 hS hG2 rfl
  refine WL.step rfl (Stp.res rfl rfl (Res.not rfl rfl rfl) ?_)
  refine WL.nil (Thn_n ?_)
  refine CW.condF rfl ?_
  refine CW.skip (Thn_n ?_)
  refine CW.seq ?_
  have hS := hS.drew
  have hK0 := And.intro (hS.get (i := 1) rfl) (hS.get (i := 0) rfl)
  refine CW.last (fun w => w.heap[b6]? = some (.cells #[Go.E.str c, .int .i64 t, .int .i64 z] 67 (0, 0)) ∧ w.heap[b7]? = some (.cells #[Go.E.str d, .int .i64 t2, .int .i64 z2] 67 (0, 0))) [4, 5] mixed ?_
  refine ZL.take 0 rfl (by kernel_rfl) rfl rfl rfl hK0 (fun w hK => Res.loadAll (cs := #[Go.E.str c, .int .i64 t, .int .i64 z]) rfl rfl Tryz.underlying67 rfl (sz67) (hK.1)) ?_
  refine ZL.take 2 rfl (by kernel_rfl) rfl rfl rfl hK0 (fun w hK => Res.loadAll (cs := #[Go.E.str d, .int .i64 t2, .int .i64 z2]) rfl rfl Tryz.underlying67 rfl (sz67) (hK.2)) ?_
  refine ZL.one 1 rfl (by kernel_rfl) rfl (Stp.callG (args := [_]) rfl rfl rfl cal43 rfl rfl hS (gname_ok c t z _ _ hS.on) ?_)
  rintro _ w _ hS _ ⟨rfl, rfl⟩
  have hK0 := And.intro (hS.get (i := 1) rfl) (hS.get (i := 0) rfl)
  refine ⟨hK0, ?_⟩
  refine ZL.one 3 rfl (by kernel_rfl) rfl (Stp.callG (args := [_]) rfl rfl rfl cal43 rfl rfl hS (gname_ok d t2 z2 _ _ hS.on) ?_)
  rintro _ w _ hS _ ⟨rfl, rfl⟩
  have hK0 := And.intro (hS.get (i := 1) rfl) (hS.get (i := 0) rfl)
  refine ⟨hK0, ?_⟩
  refine ZL.end 4 (by decide) rfl (by kernel_rfl) rfl (Stp.storeAll 1 rfl rfl rfl (sz67) one3 rfl hS rfl rfl ?_)
  intro w hS hpt
  change St w0 w M2 [(b7, .cells #[Go.E.str d, .int .i64 t2, .int .i64 z2] 67 (0, 0)), (b6, .cells #[Go.E.str (c.take 100), .int .i64 t, .int .i64 z] 67 (0, 0))] at hS
  refine ZL.end 5 (by decide) rfl (by kernel_rfl) rfl (Stp.storeAll 0 rfl rfl rfl (sz67) one3 rfl hS rfl rfl ?_)
  intro w hS hpt
  change St w0 w M2 [(b7, .cells #[Go.E.str (d.take 100), .int .i64 t2, .int .i64 z2] 67 (0, 0)), (b6, .cells #[Go.E.str (c.take 100), .int .i64 t, .int .i64 z] 67 (0, 0))] at hS
  refine ZL.done (by kernel_rfl) (Thn_n ?_)
  refine CW.seq ?_
  obtain ⟨M3, hG3, hx6, hx7, hS⟩ : ∃ M3, Grow w0.heap.size M2 M3 ∧ M3 b6 = some (.cells #[Go.E.str (c.take 100), .int .i64 t, .int .i64 z] 67 (0, 0)) ∧ M3 b7 = some (.cells #[Go.E.str (d.take 100), .int .i64 t2, .int .i64 z2] 67 (0, 0)) ∧ St w0 w M3 [] := by
    have hF := hS.freezeG (i := 0) rfl hb7
    have hF2 := hF.1.freezeG (i := 0) rfl hb6
    exact ⟨_, hF.2.trans hF2.2, PH.add_self _ _ _, hF2.2.1 _ _ (PH.add_self _ _ _), hF2.1⟩
  have hbk := hbk.mono (hG2.trans hG3).1
  have hbc := hbc.mono (hG2.trans hG3).1
  have hgl := hgl.mono ((hG1.trans hG2).trans hG3).1
  have hS := hS.drew
  have hK0 := (hS.known (PH.le.refl _)).on
  refine CW.held (fun w => On M3 w) mixed ?_
  refine AL.take 0 rfl (by kernel_rfl) (by kernel_rfl) (by kernel_rfl) rfl rfl rfl hK0 (fun w hK => Res.sliceA rfl rfl Tryz.underlying78 (by decide) sz5) ?_
  refine AL.take 1 rfl (by kernel_rfl) (by kernel_rfl) (by kernel_rfl) rfl rfl rfl hK0 (fun w hK => Res.sliceA rfl rfl Tryz.underlying78 (by decide) sz5) ?_
  refine AL.take 2 rfl (by kernel_rfl) (by kernel_rfl) (by kernel_rfl) rfl rfl rfl hK0 (fun w hK => Res.loadAll (cs := #[Go.E.str (c.take 100), .int .i64 t, .int .i64 z]) rfl rfl Tryz.underlying67 rfl (sz67) (hK _ _ hx6)) ?_
  refine AL.one 3 rfl (by kernel_rfl) rfl (Stp.callG (args := [_, _, _]) rfl rfl rfl cal44 rfl rfl hS (gseal_all _ _ key conf (c.take 100) t z _ _ hS.on hgl hbk hbc ht hz) ?_)
  rintro _ w M4 hS hG4 ⟨xv, rfl, hxv⟩
  rw [Tick.sealA, if_neg hok] at hxv ⊢
  have hK0 : On M3 w := (hS.known hG4.1).on
  refine ⟨hK0, ?_⟩
  refine AL.take 4 rfl (by kernel_rfl) (by kernel_rfl) (by kernel_rfl) rfl rfl rfl hK0 (fun w hK => Res.move rfl rfl) ?_
  refine AL.take 5 rfl (by kernel_rfl) (by kernel_rfl) (by kernel_rfl) rfl rfl rfl hK0 (fun w hK => Res.extract (l := [_, _]) rfl rfl rfl) ?_
  refine AL.take 6 rfl (by kernel_rfl) (by kernel_rfl) (by kernel_rfl) rfl rfl rfl hK0 (fun w hK => Res.extract (l := [_, _]) rfl rfl rfl) ?_
  refine AL.take 7 rfl (by kernel_rfl) (by kernel_rfl) (by kernel_rfl) rfl rfl rfl hK0 (fun w hK => Res.assign rfl rfl) ?_
  refine AL.take 8 rfl (by kernel_rfl) (by kernel_rfl) (by kernel_rfl) rfl rfl rfl hK0 (fun w hK => Res.assign rfl rfl) ?_
  refine AL.done (by kernel_rfl) (Thn_n ?_)
  refine CW.seq ?_
  have hS := hS.drew
  have hK0 := (hS.known hG4.1).on
  refine CW.held (fun w => On M3 w) mixed ?_
  refine AL.take 0 rfl (by kernel_rfl) (by kernel_rfl) (by kernel_rfl) rfl rfl rfl hK0 (fun w hK => Res.sliceA rfl rfl Tryz.underlying78 (by decide) sz5) ?_
  refine AL.take 1 rfl (by kernel_rfl) (by kernel_rfl) (by kernel_rfl) rfl rfl rfl hK0 (fun w hK => Res.sliceA rfl rfl Tryz.underlying78 (by decide) sz5) ?_
  refine AL.take 2 rfl (by kernel_rfl) (by kernel_rfl) (by kernel_rfl) rfl rfl rfl hK0 (fun w hK => Res.loadAll (cs := #[Go.E.str (c.take 100), .int .i64 t, .int .i64 z]) rfl rfl Tryz.underlying67 rfl (sz67) (hK _ _ hx6)) ?_
  refine AL.one 3 rfl (by kernel_rfl) rfl (Stp.callG (args := [_, _, _]) rfl rfl rfl cal46 rfl rfl hS (ganswer_all _ _ key conf (c.take 100) t z _ _ hS.on (hgl.mono hG4.1) (hbk.mono hG4.1) (hbc.mono hG4.1) ht hz) ?_)
  rintro _ w M5 hS hG5 ⟨yv, rfl, hyv⟩
  rw [Tick.answerA, if_neg hok] at hyv ⊢
  have hK0 : On M3 w := (hS.known (hG4.trans hG5).1).on
  refine ⟨hK0, ?_⟩
  refine AL.take 4 rfl (by kernel_rfl) (by kernel_rfl) (by kernel_rfl) rfl rfl rfl hK0 (fun w hK => Res.move rfl rfl) ?_
  refine AL.take 5 rfl (by kernel_rfl) (by kernel_rfl) (by kernel_rfl) rfl rfl rfl hK0 (fun w hK => Res.extract (l := [_, _]) rfl rfl rfl) ?_
  refine AL.take 6 rfl (by kernel_rfl) (by kernel_rfl) (by kernel_rfl) rfl rfl rfl hK0 (fun w hK => Res.extract (l := [_, _]) rfl rfl rfl) ?_
  refine AL.take 7 rfl (by kernel_rfl) (by kernel_rfl) (by kernel_rfl) rfl rfl rfl hK0 (fun w hK => Res.assign rfl rfl) ?_
  refine AL.take 8 rfl (by kernel_rfl) (by kernel_rfl) (by kernel_rfl) rfl rfl rfl hK0 (fun w hK => Res.assign rfl rfl) ?_
  refine AL.done (by kernel_rfl) (Thn_n ?_)
  refine CW.seq ?_
  refine CW.seq ?_
  refine CW.region ?_
  refine WL.step rfl (Stp.res rfl rfl (Res.move rfl rfl) ?_)
  refine WL.step rfl (Stp.res rfl rfl (Res.to (Res.neq rfl rfl rfl) (by decide)) ?_)
  refine WL.nil (Thn_n ?_)
  refine CW.condT rfl ?_
  refine CW.seq ?_
  refine CW.region ?_
  refine WL.step rfl (Stp.res rfl rfl (Res.move rfl rfl) ?_)
  refine WL.step rfl (Stp.res rfl rfl (Res.to (Res.eql rfl rfl rfl) rfl) ?_)
  refine WL.step rfl (Stp.res rfl rfl (Res.move rfl rfl) ?_)
  refine WL.stepG 2 true rfl rfl rfl rfl (Stp.res rfl rfl (Res.move rfl rfl) ?_)
  refine WL.stepG 2 true rfl rfl rfl rfl (Stp.res rfl rfl (Res.move rfl rfl) ?_)
  refine WL.stepG 2 true rfl rfl rfl rfl (Stp.res rfl rfl (Res.to (Res.eql rfl rfl rfl) rfl) ?_)
  refine WL.step rfl (Stp.res rfl rfl (Res.pickT rfl rfl rfl) ?_)
  refine WL.step rfl (Stp.res rfl rfl (Res.assign rfl rfl) ?_)
  refine WL.nil (Thn_n ?_)
  refine CW.ret (Thn_r ?_)
  have hGA := (((hG1.trans hG2).trans hG3).trans hG4).trans hG5
  exact fq_tmp rfl rfl ⟨M5, hS, hGA.1, hGA.2, rfl⟩
end Go.Proofs.YtcmgimicdcchlaaGreatDoor
set_option linter.unusedVariables false
set_option maxRecDepth 20000
namespace Go.Proofs.YtcmgimicdcchlaaGreatDoor
open Go Go.E
theorem law_answers_y (key conf c d : List UInt8) (t z t2 z2 : Int) (w0 : World) (M : PH) (hM : On M w0) (hgl : GL M) (hk : key.length = 16) (hcf : conf.length = 16) (ht : Tick.inI t) (hz : Tick.inI z) (ht2 : Tick.inI t2) (hz2 : Tick.inI z2) (hok : Tick.okAuth (c.take 100) t) (h1 : t2 = t) : Ok Tryz.prog 12 #[.agg (bs key), .agg (bs conf), .agg #[Go.E.str c, .int .i64 t, .int .i64 z], .agg #[Go.E.str d, .int .i64 t2, .int .i64 z2]] w0 M (fun M' r => r = .bool true) := by
  have hS := hM.st
  have hg11 : Seal.Good key 11 := ⟨hk, by decide, by decide⟩
  have hg12 : Seal.Good key 12 := ⟨hk, by decide, by decide⟩
  refine enterB (l := [.agg (bs key), .agg (bs conf), .agg #[Go.E.str c, .int .i64 t, .int .i64 z], .agg #[Go.E.str d, .int .i64 t2, .int .i64 z2]]) 106 Tryz.func12 rfl Tryz.ntmps12 rfl ?_
  refine CW.seq ?_
  refine CW.region ?_
  refine WL.step rfl (Stp.boxA rfl rfl rfl rfl hS ?_)
  intro b4 w hb4 hS hkp hnw
  refine WL.step rfl (Stp.boxA rfl rfl rfl rfl hS ?_)
  intro b5 w hb5 hS hkp hnw
  refine WL.step rfl (Stp.boxA rfl rfl rfl rfl hS ?_)
  intro b6 w hb6 hS hkp hnw
  refine WL.step rfl (Stp.boxA rfl rfl rfl rfl hS ?_)
  intro b7 w hb7 hS hkp hnw
  refine WL.step rfl (Stp.res rfl rfl (Res.assign rfl rfl) ?_)
  refine WL.nil (Thn_n ?_)
  refine CW.seq ?_
  refine CW.seq ?_
  obtain ⟨M1, hG1, hbk, hbc, hS⟩ : ∃ M1, Grow w0.heap.size M M1 ∧ Bs M1 (.slice (some ⟨b4, 0, none⟩) 16 16) key ∧ Bs M1 (.slice (some ⟨b5, 0, none⟩) 16 16) conf ∧ St w0 w M1 [(b7, .cells #[Go.E.str d, .int .i64 t2, .int .i64 z2] 67 (0, 0)), (b6, .cells #[Go.E.str c, .int .i64 t, .int .i64 z] 67 (0, 0))] := by
    have hF := hS.freezeG (i := 3) rfl hb4
    have hF2 := hF.1.freezeG (i := 2) rfl hb5
    exact ⟨_, hF.2.trans hF2.2, (Bs.of' (PH.add_self _ _ _) hk (by omega)).mono hF2.2.1, Bs.of' (PH.add_self _ _ _) hcf (by omega), hF2.1⟩
  refine CW.region ?_
  refine WL.step rfl (Stp.callG (args := []) rfl rfl rfl cal39 rfl rfl hS (works20_ok _ _ hS.on (hgl.mono hG1.1)) ?_)
  rintro _ w M2 hS hG2 rfl
  refine WL.step rfl (Stp.res rfl rfl (Res.not rfl rfl rfl) ?_)
  refine WL.nil (Thn_n ?_)
  refine CW.condF rfl ?_
  refine CW.skip (Thn_n ?_)
  refine CW.seq ?_
  have hS := hS.drew
  have hK0 := And.intro (hS.get (i := 1) rfl) (hS.get (i := 0) rfl)
  refine CW.last (fun w => w.heap[b6]? = some (.cells #[Go.E.str c, .int .i64 t, .int .i64 z] 67 (0, 0)) ∧ w.heap[b7]? = some (.cells #[Go.E.str d, .int .i64 t2, .int .i64 z2] 67 (0, 0))) [4, 5] mixed ?_
  refine ZL.take 0 rfl (by kernel_rfl) rfl rfl rfl hK0 (fun w hK => Res.loadAll (cs := #[Go.E.str c, .int .i64 t, .int .i64 z]) rfl rfl Tryz.underlying67 rfl (sz67) (hK.1)) ?_
  refine ZL.take 2 rfl (by kernel_rfl) rfl rfl rfl hK0 (fun w hK => Res.loadAll (cs := #[Go.E.str d, .int .i64 t2, .int .i64 z2]) rfl rfl Tryz.underlying67 rfl (sz67) (hK.2)) ?_
  refine ZL.one 1 rfl (by kernel_rfl) rfl (Stp.callG (args := [_]) rfl rfl rfl cal43 rfl rfl hS (gname_ok c t z _ _ hS.on) ?_)
  rintro _ w _ hS _ ⟨rfl, rfl⟩
  have hK0 := And.intro (hS.get (i := 1) rfl) (hS.get (i := 0) rfl)
  refine ⟨hK0, ?_⟩
  refine ZL.one 3 rfl (by kernel_rfl) rfl (Stp.callG (args := [_]) rfl rfl rfl cal43 rfl rfl hS (gname_ok d t2 z2 _ _ hS.on) ?_)
  rintro _ w _ hS _ ⟨rfl, rfl⟩
  have hK0 := And.intro (hS.get (i := 1) rfl) (hS.get (i := 0) rfl)
  refine ⟨hK0, ?_⟩
  refine ZL.end 4 (by decide) rfl (by kernel_rfl) rfl (Stp.storeAll 1 rfl rfl rfl (sz67) one3 rfl hS rfl rfl ?_)
  intro w hS hpt
  change St w0 w M2 [(b7, .cells #[Go.E.str d, .int .i64 t2, .int .i64 z2] 67 (0, 0)), (b6, .cells #[Go.E.str (c.take 100), .int .i64 t, .int .i64 z] 67 (0, 0))] at hS
  refine ZL.end 5 (by decide) rfl (by kernel_rfl) rfl (Stp.storeAll 0 rfl rfl rfl (sz67) one3 rfl hS rfl rfl ?_)
  intro w hS hpt
  change St w0 w M2 [(b7, .cells #[Go.E.str (d.take 100), .int .i64 t2, .int .i64 z2] 67 (0, 0)), (b6, .cells #[Go.E.str (c.take 100), .int .i64 t, .int .i64 z] 67 (0, 0))] at hS
  refine ZL.done (by kernel_rfl) (Thn_n ?_)
  refine CW.seq ?_
  obtain ⟨M3, hG3, hx6, hx7, hS⟩ : ∃ M3, Grow w0.heap.size M2 M3 ∧ M3 b6 = some (.cells #[Go.E.str (c.take 100), .int .i64 t, .int .i64 z] 67 (0, 0)) ∧ M3 b7 = some (.cells #[Go.E.str (d.take 100), .int .i64 t2, .int .i64 z2] 67 (0, 0)) ∧ St w0 w M3 [] := by
    have hF := hS.freezeG (i := 0) rfl hb7
    have hF2 := hF.1.freezeG (i := 0) rfl hb6
    exact ⟨_, hF.2.trans hF2.2, PH.add_self _ _ _, hF2.2.1 _ _ (PH.add_self _ _ _), hF2.1⟩
  have hbk := hbk.mono (hG2.trans hG3).1
  have hbc := hbc.mono (hG2.trans hG3).1
  have hgl := hgl.mono ((hG1.trans hG2).trans hG3).1
  have hS := hS.drew
  have hK0 := (hS.known (PH.le.refl _)).on
  refine CW.held (fun w => On M3 w) mixed ?_
  refine AL.take 0 rfl (by kernel_rfl) (by kernel_rfl) (by kernel_rfl) rfl rfl rfl hK0 (fun w hK => Res.sliceA rfl rfl Tryz.underlying78 (by decide) sz5) ?_
  refine AL.take 1 rfl (by kernel_rfl) (by kernel_rfl) (by kernel_rfl) rfl rfl rfl hK0 (fun w hK => Res.sliceA rfl rfl Tryz.underlying78 (by decide) sz5) ?_
  refine AL.take 2 rfl (by kernel_rfl) (by kernel_rfl) (by kernel_rfl) rfl rfl rfl hK0 (fun w hK => Res.loadAll (cs := #[Go.E.str (c.take 100), .int .i64 t, .int .i64 z]) rfl rfl Tryz.underlying67 rfl (sz67) (hK _ _ hx6)) ?_
  refine AL.one 3 rfl (by kernel_rfl) rfl (Stp.callG (args := [_, _, _]) rfl rfl rfl cal44 rfl rfl hS (gseal_all _ _ key conf (c.take 100) t z _ _ hS.on hgl hbk hbc ht hz) ?_)
  rintro _ w M4 hS hG4 ⟨xv, rfl, hxv⟩
  rw [Tick.sealA, if_pos hok, Seal.sealR_ok hg11 hcf (Tick.auth_le hok.1)] at hxv ⊢
  have hK0 : On M3 w := (hS.known hG4.1).on
  refine ⟨hK0, ?_⟩
  refine AL.take 4 rfl (by kernel_rfl) (by kernel_rfl) (by kernel_rfl) rfl rfl rfl hK0 (fun w hK => Res.move rfl rfl) ?_
  refine AL.take 5 rfl (by kernel_rfl) (by kernel_rfl) (by kernel_rfl) rfl rfl rfl hK0 (fun w hK => Res.extract (l := [_, _]) rfl rfl rfl) ?_
  refine AL.take 6 rfl (by kernel_rfl) (by kernel_rfl) (by kernel_rfl) rfl rfl rfl hK0 (fun w hK => Res.extract (l := [_, _]) rfl rfl rfl) ?_
  refine AL.take 7 rfl (by kernel_rfl) (by kernel_rfl) (by kernel_rfl) rfl rfl rfl hK0 (fun w hK => Res.assign rfl rfl) ?_
  refine AL.take 8 rfl (by kernel_rfl) (by kernel_rfl) (by kernel_rfl) rfl rfl rfl hK0 (fun w hK => Res.assign rfl rfl) ?_
  refine AL.done (by kernel_rfl) (Thn_n ?_)
  refine CW.seq ?_
  have hS := hS.drew
  have hK0 := (hS.known hG4.1).on
  refine CW.held (fun w => On M3 w) mixed ?_
  refine AL.take 0 rfl (by kernel_rfl) (by kernel_rfl) (by kernel_rfl) rfl rfl rfl hK0 (fun w hK => Res.sliceA rfl rfl Tryz.underlying78 (by decide) sz5) ?_
  refine AL.take 1 rfl (by kernel_rfl) (by kernel_rfl) (by kernel_rfl) rfl rfl rfl hK0 (fun w hK => Res.sliceA rfl rfl Tryz.underlying78 (by decide) sz5) ?_
  refine AL.take 2 rfl (by kernel_rfl) (by kernel_rfl) (by kernel_rfl) rfl rfl rfl hK0 (fun w hK => Res.loadAll (cs := #[Go.E.str (c.take 100), .int .i64 t, .int .i64 z]) rfl rfl Tryz.underlying67 rfl (sz67) (hK _ _ hx6)) ?_
  refine AL.one 3 rfl (by kernel_rfl) rfl (Stp.callG (args := [_, _, _]) rfl rfl rfl cal46 rfl rfl hS (ganswer_all _ _ key conf (c.take 100) t z _ _ hS.on (hgl.mono hG4.1) (hbk.mono hG4.1) (hbc.mono hG4.1) ht hz) ?_)
  rintro _ w M5 hS hG5 ⟨yv, rfl, hyv⟩
  rw [Tick.answerA, if_pos hok, Seal.sealR_ok hg12 hcf (Tick.ans_le t z)] at hyv ⊢
  have hK0 : On M3 w := (hS.known (hG4.trans hG5).1).on
  refine ⟨hK0, ?_⟩
  refine AL.take 4 rfl (by kernel_rfl) (by kernel_rfl) (by kernel_rfl) rfl rfl rfl hK0 (fun w hK => Res.move rfl rfl) ?_
  refine AL.take 5 rfl (by kernel_rfl) (by kernel_rfl) (by kernel_rfl) rfl rfl rfl hK0 (fun w hK => Res.extract (l := [_, _]) rfl rfl rfl) ?_
  refine AL.take 6 rfl (by kernel_rfl) (by kernel_rfl) (by kernel_rfl) rfl rfl rfl hK0 (fun w hK => Res.extract (l := [_, _]) rfl rfl rfl) ?_
  refine AL.take 7 rfl (by kernel_rfl) (by kernel_rfl) (by kernel_rfl) rfl rfl rfl hK0 (fun w hK => Res.assign rfl rfl) ?_
  refine AL.take 8 rfl (by kernel_rfl) (by kernel_rfl) (by kernel_rfl) rfl rfl rfl hK0 (fun w hK => Res.assign rfl rfl) ?_
  refine AL.done (by kernel_rfl) (Thn_n ?_)
  refine CW.seq ?_
  refine CW.seq ?_
  refine CW.region ?_
  refine WL.step rfl (Stp.res rfl rfl (Res.move rfl rfl) ?_)
  refine WL.step rfl (Stp.res rfl rfl (Res.toF (Res.neq rfl rfl rfl) (fun h => h rfl)) ?_)
  refine WL.nil (Thn_n ?_)
  refine CW.condF rfl ?_
  refine CW.skip (Thn_n ?_)
  refine CW.seq ?_
  refine CW.region ?_
  refine WL.step rfl (Stp.res rfl rfl (Res.sliceA rfl rfl Tryz.underlying78 (by decide) sz5) ?_)
  refine WL.step rfl (Stp.res rfl rfl (Res.move rfl rfl) ?_)
  refine WL.step rfl (Stp.callG (args := [_, _]) rfl rfl rfl cal48 rfl rfl hS (gopen_O _ _ key _ (c.take 100) (Tick.be8 (Tick.bits t)) (Tick.be8 (Tick.bits z)) _ _ hS.on (hgl.mono (hG4.trans hG5).1) (hbk.mono (hG4.trans hG5).1) (hxv.mono hG5.1) (Seal.openR_sealed hg11 hcf (Tick.auth_le hok.1)) (Tick.auth_le hok.1) (fun j hj => by rcases (by omega : j = 0 ∨ j = 1) with rfl | rfl <;> exact Tick.be8_length _) (by rw [Tick.sgn_val_bits ht]; exact hok)) ?_)
  rintro _ w M6 hS hG6 rfl
  rw [Tick.sgn_val_bits ht, Tick.sgn_val_bits hz]
  refine WL.step rfl (Stp.res rfl rfl (Res.move rfl rfl) ?_)
  refine WL.step rfl (Stp.res rfl rfl (Res.extract (l := [_, _]) rfl rfl rfl) ?_)
  refine WL.step rfl (Stp.res rfl rfl (Res.extract (l := [_, _]) rfl rfl rfl) ?_)
  refine WL.step rfl (Stp.alloc (cs := #[Go.E.str [], .int .i64 0, .int .i64 0]) rfl zAu rfl rfl rfl hS ?_)
  intro b13 w hb13 hS hkp hnw
  refine WL.step rfl (Stp.storeAll 0 rfl rfl rfl (sz67) one3 rfl hS rfl rfl ?_)
  intro w hS hpt
  refine WL.step rfl (Stp.res rfl rfl (Res.assign rfl rfl) ?_)
  refine WL.nil (Thn_n ?_)
  refine CW.seq ?_
  have hS := hS.drew
  have hK0 := (hS.known ((hG4.trans hG5).trans hG6).1).on
  refine CW.held (fun w => On M3 w) mixed ?_
  refine AL.take 0 rfl (by kernel_rfl) (by kernel_rfl) (by kernel_rfl) rfl rfl rfl hK0 (fun w hK => Res.sliceA rfl rfl Tryz.underlying78 (by decide) sz5) ?_
  refine AL.take 1 rfl (by kernel_rfl) (by kernel_rfl) (by kernel_rfl) rfl rfl rfl hK0 (fun w hK => Res.move rfl rfl) ?_
  refine AL.take 2 rfl (by kernel_rfl) (by kernel_rfl) (by kernel_rfl) rfl rfl rfl hK0 (fun w hK => Res.loadAll (cs := #[Go.E.str (c.take 100), .int .i64 t, .int .i64 z]) rfl rfl Tryz.underlying67 rfl (sz67) (hK _ _ hx6)) ?_
  refine AL.one 3 rfl (by kernel_rfl) rfl (Stp.callG (args := [_, _, _]) rfl rfl rfl cal50 rfl rfl hS (gansd_O _ _ key _ (Tick.be8 (Tick.bits t)) (Tick.be8 (Tick.bits z)) (c.take 100) t z _ _ hS.on (hgl.mono ((hG4.trans hG5).trans hG6).1) (hbk.mono ((hG4.trans hG5).trans hG6).1) (hyv.mono hG6.1) (Seal.openR_sealed hg12 hcf (Tick.ans_le t z)) (Tick.ans_le t z) (fun j hj => by rcases (by omega : j = 0 ∨ j = 1) with rfl | rfl <;> exact Tick.be8_length _)) ?_)
  rintro _ w M7 hS hG7 rfl
  rw [Tick.sgn_val_bits ht, Tick.sgn_val_bits hz]
  have hK0 : On M3 w := (hS.known (((hG4.trans hG5).trans hG6).trans hG7).1).on
  refine ⟨hK0, ?_⟩
  refine AL.take 4 rfl (by kernel_rfl) (by kernel_rfl) (by kernel_rfl) rfl rfl rfl hK0 (fun w hK => Res.move rfl rfl) ?_
  refine AL.take 5 rfl (by kernel_rfl) (by kernel_rfl) (by kernel_rfl) rfl rfl rfl hK0 (fun w hK => Res.extract (l := [_, _]) rfl rfl rfl) ?_
  refine AL.take 6 rfl (by kernel_rfl) (by kernel_rfl) (by kernel_rfl) rfl rfl rfl hK0 (fun w hK => Res.extract (l := [_, _]) rfl rfl rfl) ?_
  refine AL.take 7 rfl (by kernel_rfl) (by kernel_rfl) (by kernel_rfl) rfl rfl rfl hK0 (fun w hK => Res.assign rfl rfl) ?_
  refine AL.take 8 rfl (by kernel_rfl) (by kernel_rfl) (by kernel_rfl) rfl rfl rfl hK0 (fun w hK => Res.assign rfl rfl) ?_
  refine AL.done (by kernel_rfl) (Thn_n ?_)
  refine CW.seq ?_
  have hS := hS.drew
  have hK0 := (hS.known (((hG4.trans hG5).trans hG6).trans hG7).1).on
  refine CW.held (fun w => On M3 w) mixed ?_
  refine AL.take 0 rfl (by kernel_rfl) (by kernel_rfl) (by kernel_rfl) rfl rfl rfl hK0 (fun w hK => Res.sliceA rfl rfl Tryz.underlying78 (by decide) sz5) ?_
  refine AL.take 1 rfl (by kernel_rfl) (by kernel_rfl) (by kernel_rfl) rfl rfl rfl hK0 (fun w hK => Res.move rfl rfl) ?_
  refine AL.take 2 rfl (by kernel_rfl) (by kernel_rfl) (by kernel_rfl) rfl rfl rfl hK0 (fun w hK => Res.loadAll (cs := #[Go.E.str (d.take 100), .int .i64 t2, .int .i64 z2]) rfl rfl Tryz.underlying67 rfl (sz67) (hK _ _ hx7)) ?_
  refine AL.one 3 rfl (by kernel_rfl) rfl (Stp.callG (args := [_, _, _]) rfl rfl rfl cal50 rfl rfl hS (gansd_O _ _ key _ (Tick.be8 (Tick.bits t)) (Tick.be8 (Tick.bits z)) (d.take 100) t2 z2 _ _ hS.on (hgl.mono (((hG4.trans hG5).trans hG6).trans hG7).1) (hbk.mono (((hG4.trans hG5).trans hG6).trans hG7).1) (hyv.mono (hG6.trans hG7).1) (Seal.openR_sealed hg12 hcf (Tick.ans_le t z)) (Tick.ans_le t z) (fun j hj => by rcases (by omega : j = 0 ∨ j = 1) with rfl | rfl <;> exact Tick.be8_length _)) ?_)
  rintro _ w M8 hS hG8 rfl
  rw [Tick.sgn_val_bits ht, Tick.sgn_val_bits hz]
  have hK0 : On M3 w := (hS.known ((((hG4.trans hG5).trans hG6).trans hG7).trans hG8).1).on
  refine ⟨hK0, ?_⟩
  refine AL.take 4 rfl (by kernel_rfl) (by kernel_rfl) (by kernel_rfl) rfl rfl rfl hK0 (fun w hK => Res.move rfl rfl) ?_
  refine AL.take 5 rfl (by kernel_rfl) (by kernel_rfl) (by kernel_rfl) rfl rfl rfl hK0 (fun w hK => Res.extract (l := [_, _]) rfl rfl rfl) ?_
  refine AL.take 6 rfl (by kernel_rfl) (by kernel_rfl) (by kernel_rfl) rfl rfl rfl hK0 (fun w hK => Res.extract (l := [_, _]) rfl rfl rfl) ?_
  refine AL.take 7 rfl (by kernel_rfl) (by kernel_rfl) (by kernel_rfl) rfl rfl rfl hK0 (fun w hK => Res.assign rfl rfl) ?_
  refine AL.take 8 rfl (by kernel_rfl) (by kernel_rfl) (by kernel_rfl) rfl rfl rfl hK0 (fun w hK => Res.assign rfl rfl) ?_
  refine AL.done (by kernel_rfl) (Thn_n ?_)
  refine CW.seq ?_
  refine CW.region ?_
  refine WL.step rfl (Stp.res rfl rfl (Res.move rfl rfl) ?_)
  refine WL.step rfl (Stp.res rfl rfl (Res.to (Res.eql rfl rfl rfl) rfl) ?_)
  refine WL.step rfl (Stp.res rfl rfl (Res.move rfl rfl) ?_)
  refine WL.stepG 2 true rfl rfl rfl rfl (Stp.res rfl rfl (Res.move rfl rfl) ?_)
  refine WL.stepG 2 true rfl rfl rfl rfl (Stp.res rfl rfl (Res.to (Res.eql rfl rfl rfl) rfl) ?_)
  refine WL.step rfl (Stp.res rfl rfl (Res.pickT rfl rfl rfl) ?_)
  refine WL.step rfl (Stp.res rfl rfl (Res.move rfl rfl) ?_)
  refine WL.stepG 6 true rfl rfl rfl rfl (Stp.res rfl rfl (Res.loadAll (cs := #[Go.E.str (c.take 100), .int .i64 t, .int .i64 z]) rfl rfl Tryz.underlying67 rfl (sz67) (hS.get (i := 0) rfl)) ?_)
  refine WL.stepG 6 true rfl rfl rfl rfl (Stp.res rfl rfl (Res.loadAll (cs := #[Go.E.str (c.take 100), .int .i64 t, .int .i64 z]) rfl rfl Tryz.underlying67 rfl (sz67) (hS.on _ _ (((((hG4.trans hG5).trans hG6).trans hG7).trans hG8).1 _ _ hx6))) ?_)
  refine WL.stepG 6 true rfl rfl rfl rfl (Stp.res rfl rfl (Res.to (Res.eqlSII rfl rfl rfl Tryz.underlying67 rfl (by decide) ⟨rfl, rfl, rfl⟩ ⟨Tryz.underlying9, Tryz.underlying3, Tryz.underlying3⟩ (by kernel_rfl) (by kernel_rfl)) ⟨rfl, rfl, rfl⟩) ?_)
  refine WL.step rfl (Stp.res rfl rfl (Res.pickT rfl rfl rfl) ?_)
  refine WL.step rfl (Stp.res rfl rfl (Res.move rfl rfl) ?_)
  refine WL.stepG 11 true rfl rfl rfl rfl (Stp.res rfl rfl (Res.move rfl rfl) ?_)
  refine WL.stepG 11 true rfl rfl rfl rfl (Stp.res rfl rfl (Res.to (Res.eql rfl rfl rfl) rfl) ?_)
  refine WL.step rfl (Stp.res rfl rfl (Res.pickT rfl rfl rfl) ?_)
  refine WL.step rfl (Stp.res rfl rfl (Res.move rfl rfl) ?_)
  refine WL.stepG 15 true rfl rfl rfl rfl (Stp.res rfl rfl (Res.cast (Res.move rfl rfl) (v' := .bool true) (by rw [decide_eq_true (show t = t ∧ z = z from ⟨rfl, rfl⟩)])) ?_)
  refine WL.step rfl (Stp.res rfl rfl (Res.pickT rfl rfl rfl) ?_)
  refine WL.step rfl (Stp.res rfl rfl (Res.move rfl rfl) ?_)
  refine WL.stepG 18 true rfl rfl rfl rfl (Stp.res rfl rfl (Res.move rfl rfl) ?_)
  refine WL.stepG 18 true rfl rfl rfl rfl (Stp.res rfl rfl (Res.to (Res.eql rfl rfl rfl) rfl) ?_)
  refine WL.step rfl (Stp.res rfl rfl (Res.pickT rfl rfl rfl) ?_)
  refine WL.step rfl (Stp.res rfl rfl (Res.move rfl rfl) ?_)
  refine WL.stepG 22 true rfl rfl rfl rfl (Stp.res rfl rfl (Res.move rfl rfl) ?_)
  refine WL.stepG 22 true rfl rfl rfl rfl (Stp.res rfl rfl (Res.fieldA rfl rfl Tryz.underlying67 rfl (show SZ Tryz.prog _ 1 from sz3) (by decide)) ?_)
  refine WL.stepG 22 true rfl rfl rfl rfl (Stp.res rfl rfl (Res.load1 (v := .int .i64 t2) rfl rfl Tryz.underlying3 rfl (hS.cell (PH.cell_of (((((hG4.trans hG5).trans hG6).trans hG7).trans hG8).1 _ _ hx7) rfl))) ?_)
  refine WL.stepG 22 true rfl rfl rfl rfl (Stp.res rfl rfl (Res.fieldA rfl rfl Tryz.underlying67 rfl (show SZ Tryz.prog _ 1 from sz3) (by decide)) ?_)
  refine WL.stepG 22 true rfl rfl rfl rfl (Stp.res rfl rfl (Res.load1 (v := .int .i64 t) rfl rfl Tryz.underlying3 rfl (hS.cell (PH.cell_of (((((hG4.trans hG5).trans hG6).trans hG7).trans hG8).1 _ _ hx6) rfl))) ?_)
  refine WL.stepG 22 true rfl rfl rfl rfl (Stp.res rfl rfl (Res.to (Res.eql rfl rfl rfl) h1) ?_)
  refine WL.stepG 22 true rfl rfl rfl rfl (Stp.res rfl rfl (Res.move rfl rfl) ?_)
  refine WL.stepG 29 true rfl rfl rfl rfl (Stp.res rfl rfl (Res.fieldA rfl rfl Tryz.underlying67 rfl (show SZ Tryz.prog _ 1 from sz3) (by decide)) ?_)
  refine WL.stepG 29 true rfl rfl rfl rfl (Stp.res rfl rfl (Res.load1 (v := .int .i64 z2) rfl rfl Tryz.underlying3 rfl (hS.cell (PH.cell_of (((((hG4.trans hG5).trans hG6).trans hG7).trans hG8).1 _ _ hx7) rfl))) ?_)
  refine WL.stepG 29 true rfl rfl rfl rfl (Stp.res rfl rfl (Res.fieldA rfl rfl Tryz.underlying67 rfl (show SZ Tryz.prog _ 1 from sz3) (by decide)) ?_)
  refine WL.stepG 29 true rfl rfl rfl rfl (Stp.res rfl rfl (Res.load1 (v := .int .i64 z) rfl rfl Tryz.underlying3 rfl (hS.cell (PH.cell_of (((((hG4.trans hG5).trans hG6).trans hG7).trans hG8).1 _ _ hx6) rfl))) ?_)
  refine WL.stepG 29 true rfl rfl rfl rfl (Stp.res rfl rfl (Res.eql rfl rfl rfl) ?_)
  refine WL.stepG 22 true rfl rfl rfl rfl (Stp.res rfl rfl (Res.pickT rfl rfl rfl) ?_)
  refine WL.stepG 22 true rfl rfl rfl rfl (Stp.res rfl rfl (Res.toB (b' := true) (Res.eqlBool rfl rfl rfl Tryz.underlying4) (by rw [decide_eq_decide.2 (show (t = t2 ∧ z = z2) ↔ z2 = z from ⟨fun h => h.2.symm, fun h => ⟨h1.symm, h.symm⟩⟩)]; exact beq_self_eq_true _)) ?_)
  refine WL.step rfl (Stp.res rfl rfl (Res.pickT rfl rfl rfl) ?_)
  refine WL.step rfl (Stp.res rfl rfl (Res.assign rfl rfl) ?_)
  refine WL.nil (Thn_n ?_)
  refine CW.ret ?_
  have hGA := ((((((hG1.trans hG2).trans hG3).trans hG4).trans hG5).trans hG6).trans hG7).trans hG8
  exact fq_tmp rfl rfl ⟨M8, hS.drop (i := 0) rfl hb13, hGA.1, hGA.2, rfl⟩
end Go.Proofs.YtcmgimicdcchlaaGreatDoor
set_option linter.unusedVariables false
set_option maxRecDepth 20000
namespace Go.Proofs.YtcmgimicdcchlaaGreatDoor
open Go Go.E
theorem law_answers_n (key conf c d : List UInt8) (t z t2 z2 : Int) (w0 : World) (M : PH) (hM : On M w0) (hgl : GL M) (hk : key.length = 16) (hcf : conf.length = 16) (ht : Tick.inI t) (hz : Tick.inI z) (ht2 : Tick.inI t2) (hz2 : Tick.inI z2) (hok : Tick.okAuth (c.take 100) t) (h1 : ¬ t2 = t) : Ok Tryz.prog 12 #[.agg (bs key), .agg (bs conf), .agg #[Go.E.str c, .int .i64 t, .int .i64 z], .agg #[Go.E.str d, .int .i64 t2, .int .i64 z2]] w0 M (fun M' r => r = .bool true) := by
  have hS := hM.st
  have hg11 : Seal.Good key 11 := ⟨hk, by decide, by decide⟩
  have hg12 : Seal.Good key 12 := ⟨hk, by decide, by decide⟩
  refine enterB (l := [.agg (bs key), .agg (bs conf), .agg #[Go.E.str c, .int .i64 t, .int .i64 z], .agg #[Go.E.str d, .int .i64 t2, .int .i64 z2]]) 106 Tryz.func12 rfl Tryz.ntmps12 rfl ?_
  refine CW.seq ?_
  refine CW.region ?_
  refine WL.step rfl (Stp.boxA rfl rfl rfl rfl hS ?_)
  intro b4 w hb4 hS hkp hnw
  refine WL.step rfl (Stp.boxA rfl rfl rfl rfl hS ?_)
  intro b5 w hb5 hS hkp hnw
  refine WL.step rfl (Stp.boxA rfl rfl rfl rfl hS ?_)
  intro b6 w hb6 hS hkp hnw
  refine WL.step rfl (Stp.boxA rfl rfl rfl rfl hS ?_)
  intro b7 w hb7 hS hkp hnw
  refine WL.step rfl (Stp.res rfl rfl (Res.assign rfl rfl) ?_)
  refine WL.nil (Thn_n ?_)
  refine CW.seq ?_
  refine CW.seq ?_
  obtain ⟨M1, hG1, hbk, hbc, hS⟩ : ∃ M1, Grow w0.heap.size M M1 ∧ Bs M1 (.slice (some ⟨b4, 0, none⟩) 16 16) key ∧ Bs M1 (.slice (some ⟨b5, 0, none⟩) 16 16) conf ∧ St w0 w M1 [(b7, .cells #[Go.E.str d, .int .i64 t2, .int .i64 z2] 67 (0, 0)), (b6, .cells #[Go.E.str c, .int .i64 t, .int .i64 z] 67 (0, 0))] := by
    have hF := hS.freezeG (i := 3) rfl hb4
    have hF2 := hF.1.freezeG (i := 2) rfl hb5
    exact ⟨_, hF.2.trans hF2.2, (Bs.of' (PH.add_self _ _ _) hk (by omega)).mono hF2.2.1, Bs.of' (PH.add_self _ _ _) hcf (by omega), hF2.1⟩
  refine CW.region ?_
  refine WL.step rfl (Stp.callG (args := []) rfl rfl rfl cal39 rfl rfl hS (works20_ok _ _ hS.on (hgl.mono hG1.1)) ?_)
  rintro _ w M2 hS hG2 rfl
  refine WL.step rfl (Stp.res rfl rfl (Res.not rfl rfl rfl) ?_)
  refine WL.nil (Thn_n ?_)
  refine CW.condF rfl ?_
  refine CW.skip (Thn_n ?_)
  refine CW.seq ?_
  have hS := hS.drew
  have hK0 := And.intro (hS.get (i := 1) rfl) (hS.get (i := 0) rfl)
  refine CW.last (fun w => w.heap[b6]? = some (.cells #[Go.E.str c, .int .i64 t, .int .i64 z] 67 (0, 0)) ∧ w.heap[b7]? = some (.cells #[Go.E.str d, .int .i64 t2, .int .i64 z2] 67 (0, 0))) [4, 5] mixed ?_
  refine ZL.take 0 rfl (by kernel_rfl) rfl rfl rfl hK0 (fun w hK => Res.loadAll (cs := #[Go.E.str c, .int .i64 t, .int .i64 z]) rfl rfl Tryz.underlying67 rfl (sz67) (hK.1)) ?_
  refine ZL.take 2 rfl (by kernel_rfl) rfl rfl rfl hK0 (fun w hK => Res.loadAll (cs := #[Go.E.str d, .int .i64 t2, .int .i64 z2]) rfl rfl Tryz.underlying67 rfl (sz67) (hK.2)) ?_
  refine ZL.one 1 rfl (by kernel_rfl) rfl (Stp.callG (args := [_]) rfl rfl rfl cal43 rfl rfl hS (gname_ok c t z _ _ hS.on) ?_)
  rintro _ w _ hS _ ⟨rfl, rfl⟩
  have hK0 := And.intro (hS.get (i := 1) rfl) (hS.get (i := 0) rfl)
  refine ⟨hK0, ?_⟩
  refine ZL.one 3 rfl (by kernel_rfl) rfl (Stp.callG (args := [_]) rfl rfl rfl cal43 rfl rfl hS (gname_ok d t2 z2 _ _ hS.on) ?_)
  rintro _ w _ hS _ ⟨rfl, rfl⟩
  have hK0 := And.intro (hS.get (i := 1) rfl) (hS.get (i := 0) rfl)
  refine ⟨hK0, ?_⟩
  refine ZL.end 4 (by decide) rfl (by kernel_rfl) rfl (Stp.storeAll 1 rfl rfl rfl (sz67) one3 rfl hS rfl rfl ?_)
  intro w hS hpt
  change St w0 w M2 [(b7, .cells #[Go.E.str d, .int .i64 t2, .int .i64 z2] 67 (0, 0)), (b6, .cells #[Go.E.str (c.take 100), .int .i64 t, .int .i64 z] 67 (0, 0))] at hS
  refine ZL.end 5 (by decide) rfl (by kernel_rfl) rfl (Stp.storeAll 0 rfl rfl rfl (sz67) one3 rfl hS rfl rfl ?_)
  intro w hS hpt
  change St w0 w M2 [(b7, .cells #[Go.E.str (d.take 100), .int .i64 t2, .int .i64 z2] 67 (0, 0)), (b6, .cells #[Go.E.str (c.take 100), .int .i64 t, .int .i64 z] 67 (0, 0))] at hS
  refine ZL.done (by kernel_rfl) (Thn_n ?_)
  refine CW.seq ?_
  obtain ⟨M3, hG3, hx6, hx7, hS⟩ : ∃ M3, Grow w0.heap.size M2 M3 ∧ M3 b6 = some (.cells #[Go.E.str (c.take 100), .int .i64 t, .int .i64 z] 67 (0, 0)) ∧ M3 b7 = some (.cells #[Go.E.str (d.take 100), .int .i64 t2, .int .i64 z2] 67 (0, 0)) ∧ St w0 w M3 [] := by
    have hF := hS.freezeG (i := 0) rfl hb7
    have hF2 := hF.1.freezeG (i := 0) rfl hb6
    exact ⟨_, hF.2.trans hF2.2, PH.add_self _ _ _, hF2.2.1 _ _ (PH.add_self _ _ _), hF2.1⟩
  have hbk := hbk.mono (hG2.trans hG3).1
  have hbc := hbc.mono (hG2.trans hG3).1
  have hgl := hgl.mono ((hG1.trans hG2).trans hG3).1
  have hS := hS.drew
  have hK0 := (hS.known (PH.le.refl _)).on
  refine CW.held (fun w => On M3 w) mixed ?_
  refine AL.take 0 rfl (by kernel_rfl) (by kernel_rfl) (by kernel_rfl) rfl rfl rfl hK0 (fun w hK => Res.sliceA rfl rfl Tryz.underlying78 (by decide) sz5) ?_
  refine AL.take 1 rfl (by kernel_rfl) (by kernel_rfl) (by kernel_rfl) rfl rfl rfl hK0 (fun w hK => Res.sliceA rfl rfl Tryz.underlying78 (by decide) sz5) ?_
  refine AL.take 2 rfl (by kernel_rfl) (by kernel_rfl) (by kernel_rfl) rfl rfl rfl hK0 (fun w hK => Res.loadAll (cs := #[Go.E.str (c.take 100), .int .i64 t, .int .i64 z]) rfl rfl Tryz.underlying67 rfl (sz67) (hK _ _ hx6)) ?_
  refine AL.one 3 rfl (by kernel_rfl) rfl (Stp.callG (args := [_, _, _]) rfl rfl rfl cal44 rfl rfl hS (gseal_all _ _ key conf (c.take 100) t z _ _ hS.on hgl hbk hbc ht hz) ?_)
  rintro _ w M4 hS hG4 ⟨xv, rfl, hxv⟩
  rw [Tick.sealA, if_pos hok, Seal.sealR_ok hg11 hcf (Tick.auth_le hok.1)] at hxv ⊢
  have hK0 : On M3 w := (hS.known hG4.1).on
  refine ⟨hK0, ?_⟩
  refine AL.take 4 rfl (by kernel_rfl) (by kernel_rfl) (by kernel_rfl) rfl rfl rfl hK0 (fun w hK => Res.move rfl rfl) ?_
  refine AL.take 5 rfl (by kernel_rfl) (by kernel_rfl) (by kernel_rfl) rfl rfl rfl hK0 (fun w hK => Res.extract (l := [_, _]) rfl rfl rfl) ?_
  refine AL.take 6 rfl (by kernel_rfl) (by kernel_rfl) (by kernel_rfl) rfl rfl rfl hK0 (fun w hK => Res.extract (l := [_, _]) rfl rfl rfl) ?_
  refine AL.take 7 rfl (by kernel_rfl) (by kernel_rfl) (by kernel_rfl) rfl rfl rfl hK0 (fun w hK => Res.assign rfl rfl) ?_
  refine AL.take 8 rfl (by kernel_rfl) (by kernel_rfl) (by kernel_rfl) rfl rfl rfl hK0 (fun w hK => Res.assign rfl rfl) ?_
  refine AL.done (by kernel_rfl) (Thn_n ?_)
  refine CW.seq ?_
  have hS := hS.drew
  have hK0 := (hS.known hG4.1).on
  refine CW.held (fun w => On M3 w) mixed ?_
  refine AL.take 0 rfl (by kernel_rfl) (by kernel_rfl) (by kernel_rfl) rfl rfl rfl hK0 (fun w hK => Res.sliceA rfl rfl Tryz.underlying78 (by decide) sz5) ?_
  refine AL.take 1 rfl (by kernel_rfl) (by kernel_rfl) (by kernel_rfl) rfl rfl rfl hK0 (fun w hK => Res.sliceA rfl rfl Tryz.underlying78 (by decide) sz5) ?_
  refine AL.take 2 rfl (by kernel_rfl) (by kernel_rfl) (by kernel_rfl) rfl rfl rfl hK0 (fun w hK => Res.loadAll (cs := #[Go.E.str (c.take 100), .int .i64 t, .int .i64 z]) rfl rfl Tryz.underlying67 rfl (sz67) (hK _ _ hx6)) ?_
  refine AL.one 3 rfl (by kernel_rfl) rfl (Stp.callG (args := [_, _, _]) rfl rfl rfl cal46 rfl rfl hS (ganswer_all _ _ key conf (c.take 100) t z _ _ hS.on (hgl.mono hG4.1) (hbk.mono hG4.1) (hbc.mono hG4.1) ht hz) ?_)
  rintro _ w M5 hS hG5 ⟨yv, rfl, hyv⟩
  rw [Tick.answerA, if_pos hok, Seal.sealR_ok hg12 hcf (Tick.ans_le t z)] at hyv ⊢
  have hK0 : On M3 w := (hS.known (hG4.trans hG5).1).on
  refine ⟨hK0, ?_⟩
  refine AL.take 4 rfl (by kernel_rfl) (by kernel_rfl) (by kernel_rfl) rfl rfl rfl hK0 (fun w hK => Res.move rfl rfl) ?_
  refine AL.take 5 rfl (by kernel_rfl) (by kernel_rfl) (by kernel_rfl) rfl rfl rfl hK0 (fun w hK => Res.extract (l := [_, _]) rfl rfl rfl) ?_
  refine AL.take 6 rfl (by kernel_rfl) (by kernel_rfl) (by kernel_rfl) rfl rfl rfl hK0 (fun w hK => Res.extract (l := [_, _]) rfl rfl rfl) ?_
  refine AL.take 7 rfl (by kernel_rfl) (by kernel_rfl) (by kernel_rfl) rfl rfl rfl hK0 (fun w hK => Res.assign rfl rfl) ?_
  refine AL.take 8 rfl (by kernel_rfl) (by kernel_rfl) (by kernel_rfl) rfl rfl rfl hK0 (fun w hK => Res.assign rfl rfl) ?_
  refine AL.done (by kernel_rfl) (Thn_n ?_)
  refine CW.seq ?_
  refine CW.seq ?_
  refine CW.region ?_
  refine WL.step rfl (Stp.res rfl rfl (Res.move rfl rfl) ?_)
  refine WL.step rfl (Stp.res rfl rfl (Res.toF (Res.neq rfl rfl rfl) (fun h => h rfl)) ?_)
  refine WL.nil (Thn_n ?_)
  refine CW.condF rfl ?_
  refine CW.skip (Thn_n ?_)
  refine CW.seq ?_
  refine CW.region ?_
  refine WL.step rfl (Stp.res rfl rfl (Res.sliceA rfl rfl Tryz.underlying78 (by decide) sz5) ?_)
  refine WL.step rfl (Stp.res rfl rfl (Res.move rfl rfl) ?_)
  refine WL.step rfl (Stp.callG (args := [_, _]) rfl rfl rfl cal48 rfl rfl hS (gopen_O _ _ key _ (c.take 100) (Tick.be8 (Tick.bits t)) (Tick.be8 (Tick.bits z)) _ _ hS.on (hgl.mono (hG4.trans hG5).1) (hbk.mono (hG4.trans hG5).1) (hxv.mono hG5.1) (Seal.openR_sealed hg11 hcf (Tick.auth_le hok.1)) (Tick.auth_le hok.1) (fun j hj => by rcases (by omega : j = 0 ∨ j = 1) with rfl | rfl <;> exact Tick.be8_length _) (by rw [Tick.sgn_val_bits ht]; exact hok)) ?_)
  rintro _ w M6 hS hG6 rfl
  rw [Tick.sgn_val_bits ht, Tick.sgn_val_bits hz]
  refine WL.step rfl (Stp.res rfl rfl (Res.move rfl rfl) ?_)
  refine WL.step rfl (Stp.res rfl rfl (Res.extract (l := [_, _]) rfl rfl rfl) ?_)
  refine WL.step rfl (Stp.res rfl rfl (Res.extract (l := [_, _]) rfl rfl rfl) ?_)
  refine WL.step rfl (Stp.alloc (cs := #[Go.E.str [], .int .i64 0, .int .i64 0]) rfl zAu rfl rfl rfl hS ?_)
  intro b13 w hb13 hS hkp hnw
  refine WL.step rfl (Stp.storeAll 0 rfl rfl rfl (sz67) one3 rfl hS rfl rfl ?_)
  intro w hS hpt
  refine WL.step rfl (Stp.res rfl rfl (Res.assign rfl rfl) ?_)
  refine WL.nil (Thn_n ?_)
  refine CW.seq ?_
  have hS := hS.drew
  have hK0 := (hS.known ((hG4.trans hG5).trans hG6).1).on
  refine CW.held (fun w => On M3 w) mixed ?_
  refine AL.take 0 rfl (by kernel_rfl) (by kernel_rfl) (by kernel_rfl) rfl rfl rfl hK0 (fun w hK => Res.sliceA rfl rfl Tryz.underlying78 (by decide) sz5) ?_
  refine AL.take 1 rfl (by kernel_rfl) (by kernel_rfl) (by kernel_rfl) rfl rfl rfl hK0 (fun w hK => Res.move rfl rfl) ?_
  refine AL.take 2 rfl (by kernel_rfl) (by kernel_rfl) (by kernel_rfl) rfl rfl rfl hK0 (fun w hK => Res.loadAll (cs := #[Go.E.str (c.take 100), .int .i64 t, .int .i64 z]) rfl rfl Tryz.underlying67 rfl (sz67) (hK _ _ hx6)) ?_
  refine AL.one 3 rfl (by kernel_rfl) rfl (Stp.callG (args := [_, _, _]) rfl rfl rfl cal50 rfl rfl hS (gansd_O _ _ key _ (Tick.be8 (Tick.bits t)) (Tick.be8 (Tick.bits z)) (c.take 100) t z _ _ hS.on (hgl.mono ((hG4.trans hG5).trans hG6).1) (hbk.mono ((hG4.trans hG5).trans hG6).1) (hyv.mono hG6.1) (Seal.openR_sealed hg12 hcf (Tick.ans_le t z)) (Tick.ans_le t z) (fun j hj => by rcases (by omega : j = 0 ∨ j = 1) with rfl | rfl <;> exact Tick.be8_length _)) ?_)
  rintro _ w M7 hS hG7 rfl
  rw [Tick.sgn_val_bits ht, Tick.sgn_val_bits hz]
  have hK0 : On M3 w := (hS.known (((hG4.trans hG5).trans hG6).trans hG7).1).on
  refine ⟨hK0, ?_⟩
  refine AL.take 4 rfl (by kernel_rfl) (by kernel_rfl) (by kernel_rfl) rfl rfl rfl hK0 (fun w hK => Res.move rfl rfl) ?_
  refine AL.take 5 rfl (by kernel_rfl) (by kernel_rfl) (by kernel_rfl) rfl rfl rfl hK0 (fun w hK => Res.extract (l := [_, _]) rfl rfl rfl) ?_
  refine AL.take 6 rfl (by kernel_rfl) (by kernel_rfl) (by kernel_rfl) rfl rfl rfl hK0 (fun w hK => Res.extract (l := [_, _]) rfl rfl rfl) ?_
  refine AL.take 7 rfl (by kernel_rfl) (by kernel_rfl) (by kernel_rfl) rfl rfl rfl hK0 (fun w hK => Res.assign rfl rfl) ?_
  refine AL.take 8 rfl (by kernel_rfl) (by kernel_rfl) (by kernel_rfl) rfl rfl rfl hK0 (fun w hK => Res.assign rfl rfl) ?_
  refine AL.done (by kernel_rfl) (Thn_n ?_)
  refine CW.seq ?_
  have hS := hS.drew
  have hK0 := (hS.known (((hG4.trans hG5).trans hG6).trans hG7).1).on
  refine CW.held (fun w => On M3 w) mixed ?_
  refine AL.take 0 rfl (by kernel_rfl) (by kernel_rfl) (by kernel_rfl) rfl rfl rfl hK0 (fun w hK => Res.sliceA rfl rfl Tryz.underlying78 (by decide) sz5) ?_
  refine AL.take 1 rfl (by kernel_rfl) (by kernel_rfl) (by kernel_rfl) rfl rfl rfl hK0 (fun w hK => Res.move rfl rfl) ?_
  refine AL.take 2 rfl (by kernel_rfl) (by kernel_rfl) (by kernel_rfl) rfl rfl rfl hK0 (fun w hK => Res.loadAll (cs := #[Go.E.str (d.take 100), .int .i64 t2, .int .i64 z2]) rfl rfl Tryz.underlying67 rfl (sz67) (hK _ _ hx7)) ?_
  refine AL.one 3 rfl (by kernel_rfl) rfl (Stp.callG (args := [_, _, _]) rfl rfl rfl cal50 rfl rfl hS (gansd_O _ _ key _ (Tick.be8 (Tick.bits t)) (Tick.be8 (Tick.bits z)) (d.take 100) t2 z2 _ _ hS.on (hgl.mono (((hG4.trans hG5).trans hG6).trans hG7).1) (hbk.mono (((hG4.trans hG5).trans hG6).trans hG7).1) (hyv.mono (hG6.trans hG7).1) (Seal.openR_sealed hg12 hcf (Tick.ans_le t z)) (Tick.ans_le t z) (fun j hj => by rcases (by omega : j = 0 ∨ j = 1) with rfl | rfl <;> exact Tick.be8_length _)) ?_)
  rintro _ w M8 hS hG8 rfl
  rw [Tick.sgn_val_bits ht, Tick.sgn_val_bits hz]
  have hK0 : On M3 w := (hS.known ((((hG4.trans hG5).trans hG6).trans hG7).trans hG8).1).on
  refine ⟨hK0, ?_⟩
  refine AL.take 4 rfl (by kernel_rfl) (by kernel_rfl) (by kernel_rfl) rfl rfl rfl hK0 (fun w hK => Res.move rfl rfl) ?_
  refine AL.take 5 rfl (by kernel_rfl) (by kernel_rfl) (by kernel_rfl) rfl rfl rfl hK0 (fun w hK => Res.extract (l := [_, _]) rfl rfl rfl) ?_
  refine AL.take 6 rfl (by kernel_rfl) (by kernel_rfl) (by kernel_rfl) rfl rfl rfl hK0 (fun w hK => Res.extract (l := [_, _]) rfl rfl rfl) ?_
  refine AL.take 7 rfl (by kernel_rfl) (by kernel_rfl) (by kernel_rfl) rfl rfl rfl hK0 (fun w hK => Res.assign rfl rfl) ?_
  refine AL.take 8 rfl (by kernel_rfl) (by kernel_rfl) (by kernel_rfl) rfl rfl rfl hK0 (fun w hK => Res.assign rfl rfl) ?_
  refine AL.done (by kernel_rfl) (Thn_n ?_)
  refine CW.seq ?_
  refine CW.region ?_
  refine WL.step rfl (Stp.res rfl rfl (Res.move rfl rfl) ?_)
  refine WL.step rfl (Stp.res rfl rfl (Res.to (Res.eql rfl rfl rfl) rfl) ?_)
  refine WL.step rfl (Stp.res rfl rfl (Res.move rfl rfl) ?_)
  refine WL.stepG 2 true rfl rfl rfl rfl (Stp.res rfl rfl (Res.move rfl rfl) ?_)
  refine WL.stepG 2 true rfl rfl rfl rfl (Stp.res rfl rfl (Res.to (Res.eql rfl rfl rfl) rfl) ?_)
  refine WL.step rfl (Stp.res rfl rfl (Res.pickT rfl rfl rfl) ?_)
  refine WL.step rfl (Stp.res rfl rfl (Res.move rfl rfl) ?_)
  refine WL.stepG 6 true rfl rfl rfl rfl (Stp.res rfl rfl (Res.loadAll (cs := #[Go.E.str (c.take 100), .int .i64 t, .int .i64 z]) rfl rfl Tryz.underlying67 rfl (sz67) (hS.get (i := 0) rfl)) ?_)
  refine WL.stepG 6 true rfl rfl rfl rfl (Stp.res rfl rfl (Res.loadAll (cs := #[Go.E.str (c.take 100), .int .i64 t, .int .i64 z]) rfl rfl Tryz.underlying67 rfl (sz67) (hS.on _ _ (((((hG4.trans hG5).trans hG6).trans hG7).trans hG8).1 _ _ hx6))) ?_)
  refine WL.stepG 6 true rfl rfl rfl rfl (Stp.res rfl rfl (Res.to (Res.eqlSII rfl rfl rfl Tryz.underlying67 rfl (by decide) ⟨rfl, rfl, rfl⟩ ⟨Tryz.underlying9, Tryz.underlying3, Tryz.underlying3⟩ (by kernel_rfl) (by kernel_rfl)) ⟨rfl, rfl, rfl⟩) ?_)
  refine WL.step rfl (Stp.res rfl rfl (Res.pickT rfl rfl rfl) ?_)
  refine WL.step rfl (Stp.res rfl rfl (Res.move rfl rfl) ?_)
  refine WL.stepG 11 true rfl rfl rfl rfl (Stp.res rfl rfl (Res.move rfl rfl) ?_)
  refine WL.stepG 11 true rfl rfl rfl rfl (Stp.res rfl rfl (Res.to (Res.eql rfl rfl rfl) rfl) ?_)
  refine WL.step rfl (Stp.res rfl rfl (Res.pickT rfl rfl rfl) ?_)
  refine WL.step rfl (Stp.res rfl rfl (Res.move rfl rfl) ?_)
  refine WL.stepG 15 true rfl rfl rfl rfl (Stp.res rfl rfl (Res.cast (Res.move rfl rfl) (v' := .bool true) (by rw [decide_eq_true (show t = t ∧ z = z from ⟨rfl, rfl⟩)])) ?_)
  refine WL.step rfl (Stp.res rfl rfl (Res.pickT rfl rfl rfl) ?_)
  refine WL.step rfl (Stp.res rfl rfl (Res.move rfl rfl) ?_)
  refine WL.stepG 18 true rfl rfl rfl rfl (Stp.res rfl rfl (Res.move rfl rfl) ?_)
  refine WL.stepG 18 true rfl rfl rfl rfl (Stp.res rfl rfl (Res.to (Res.eql rfl rfl rfl) rfl) ?_)
  refine WL.step rfl (Stp.res rfl rfl (Res.pickT rfl rfl rfl) ?_)
  refine WL.step rfl (Stp.res rfl rfl (Res.move rfl rfl) ?_)
  refine WL.stepG 22 true rfl rfl rfl rfl (Stp.res rfl rfl (Res.move rfl rfl) ?_)
  refine WL.stepG 22 true rfl rfl rfl rfl (Stp.res rfl rfl (Res.fieldA rfl rfl Tryz.underlying67 rfl (show SZ Tryz.prog _ 1 from sz3) (by decide)) ?_)
  refine WL.stepG 22 true rfl rfl rfl rfl (Stp.res rfl rfl (Res.load1 (v := .int .i64 t2) rfl rfl Tryz.underlying3 rfl (hS.cell (PH.cell_of (((((hG4.trans hG5).trans hG6).trans hG7).trans hG8).1 _ _ hx7) rfl))) ?_)
  refine WL.stepG 22 true rfl rfl rfl rfl (Stp.res rfl rfl (Res.fieldA rfl rfl Tryz.underlying67 rfl (show SZ Tryz.prog _ 1 from sz3) (by decide)) ?_)
  refine WL.stepG 22 true rfl rfl rfl rfl (Stp.res rfl rfl (Res.load1 (v := .int .i64 t) rfl rfl Tryz.underlying3 rfl (hS.cell (PH.cell_of (((((hG4.trans hG5).trans hG6).trans hG7).trans hG8).1 _ _ hx6) rfl))) ?_)
  refine WL.stepG 22 true rfl rfl rfl rfl (Stp.res rfl rfl (Res.toF (Res.eql rfl rfl rfl) h1) ?_)
  refine WL.stepG 22 true rfl rfl rfl rfl (Stp.res rfl rfl (Res.move rfl rfl) ?_)
  refine WL.skipG 29 true rfl rfl rfl rfl rfl rfl ?_
  refine WL.skipG 29 true rfl rfl rfl rfl rfl rfl ?_
  refine WL.skipG 29 true rfl rfl rfl rfl rfl rfl ?_
  refine WL.skipG 29 true rfl rfl rfl rfl rfl rfl ?_
  refine WL.skipG 29 true rfl rfl rfl rfl rfl rfl ?_
  refine WL.stepG 22 true rfl rfl rfl rfl (Stp.res rfl rfl (Res.pickF rfl rfl rfl) ?_)
  refine WL.stepG 22 true rfl rfl rfl rfl (Stp.res rfl rfl (Res.toB (b' := true) (Res.eqlBool rfl rfl rfl Tryz.underlying4) (by rw [decide_eq_false (fun h : t = t2 ∧ z = z2 => h1 h.1.symm)]; rfl)) ?_)
  refine WL.step rfl (Stp.res rfl rfl (Res.pickT rfl rfl rfl) ?_)
  refine WL.step rfl (Stp.res rfl rfl (Res.assign rfl rfl) ?_)
  refine WL.nil (Thn_n ?_)
  refine CW.ret ?_
  have hGA := ((((((hG1.trans hG2).trans hG3).trans hG4).trans hG5).trans hG6).trans hG7).trans hG8
  exact fq_tmp rfl rfl ⟨M8, hS.drop (i := 0) rfl hb13, hGA.1, hGA.2, rfl⟩

theorem law_answers (key conf c d : List UInt8) (t z t2 z2 : Int) (w0 : World) (M : PH) (hM : On M w0) (hgl : GL M) (hk : key.length = 16) (hcf : conf.length = 16) (ht : Tick.inI t) (hz : Tick.inI z) (ht2 : Tick.inI t2) (hz2 : Tick.inI z2) : Ok Tryz.prog 12 #[.agg (bs key), .agg (bs conf), .agg #[Go.E.str c, .int .i64 t, .int .i64 z], .agg #[Go.E.str d, .int .i64 t2, .int .i64 z2]] w0 M (fun M' r => r = .bool true) := by
  by_cases hok : Tick.okAuth (c.take 100) t
  · by_cases h1 : t2 = t
    · exact law_answers_y key conf c d t z t2 z2 w0 M hM hgl hk hcf ht hz ht2 hz2 hok h1
    · exact law_answers_n key conf c d t z t2 z2 w0 M hM hgl hk hcf ht hz ht2 hz2 hok h1
  · exact law_answers_no key conf c d t z t2 z2 w0 M hM hgl hk hcf ht hz ht2 hz2 hok
end Go.Proofs.YtcmgimicdcchlaaGreatDoor
