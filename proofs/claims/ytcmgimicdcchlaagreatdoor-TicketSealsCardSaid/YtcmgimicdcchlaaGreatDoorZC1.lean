/- Lemmas on the way to the statement; no condition of its own. -/
import Derived.Test.YtcmgimicdcchlaaGreatDoorZC0
set_option linter.unusedVariables false
set_option maxRecDepth 20000
namespace Go.Proofs.YtcmgimicdcchlaaGreatDoor
open Go.Proofs.Tryz
open Go Go.E
theorem law_seals20 (v0 v1 : Value) (l0 l1 c : List UInt8) (t z : Int) (w0 : World) (M : PH) (hM : On M w0) (hgl : GL M) (hv0 : Bs M v0 l0) (hv1 : Bs M v1 l1) (ht : Tick.inI t) (hz : Tick.inI z) : Ok Tryz.prog 10 #[v0, v1, .agg #[Go.E.str c, .int .i64 t, .int .i64 z]] w0 M (fun M' r => r = .bool true) := by
  have hS := hM.st
  refine enterB (l := [v0, v1, .agg #[Go.E.str c, .int .i64 t, .int .i64 z]]) 70 func10 rfl ntmps10 rfl ?_
  refine CW.seq ?_
  refine CW.region ?_
  refine WL.step rfl (Stp.boxA rfl rfl rfl rfl hS ?_)
  intro b5 w hb5 hS hkp hnw
  refine WL.step rfl (Stp.res rfl rfl (Res.assign rfl rfl) ?_)
  refine WL.nil (Thn_n ?_)
  refine CW.seq ?_
  have hS := hS.drew
  have hK0 := hS.get (i := 0) rfl
  refine CW.last (fun w => w.heap[b5]? = some (.cells #[Go.E.str c, .int .i64 t, .int .i64 z] 67 (0, 0))) [8] mixed ?_
  refine ZL.take 0 rfl (by kernel_rfl) rfl rfl rfl hK0 (fun w hK => Res.move rfl rfl) ?_
  refine ZL.take 2 rfl (by kernel_rfl) rfl rfl rfl hK0 (fun w hK => Res.move rfl rfl) ?_
  refine ZL.take 4 rfl (by kernel_rfl) rfl rfl rfl hK0 (fun w hK => Res.loadAll (cs := #[Go.E.str c, .int .i64 t, .int .i64 z]) rfl rfl underlying67 rfl (sz67) hK) ?_
  refine ZL.one 1 rfl (by kernel_rfl) rfl (Stp.callG (args := [_, _]) rfl rfl rfl cal32 rfl rfl hS (cut20_ok _ l0 40 _ _ hS.on hv0 (by decide)) ?_)
  rintro kv w M1 hS hG1 hkv
  have hK0 := hS.get (i := 0) rfl
  refine ⟨hK0, ?_⟩
  refine ZL.one 3 rfl (by kernel_rfl) rfl (Stp.callG (args := [_, _]) rfl rfl rfl cal32 rfl rfl hS (cut20_ok _ l1 40 _ _ hS.on (hv1.mono hG1.1) (by decide)) ?_)
  rintro cv w M2 hS hG2 hcv
  have hK0 := hS.get (i := 0) rfl
  refine ⟨hK0, ?_⟩
  refine ZL.one 5 rfl (by kernel_rfl) rfl (Stp.callG (args := [_]) rfl rfl rfl cal43 rfl rfl hS (gname_ok c t z _ _ hS.on) ?_)
  rintro _ w _ hS _ ⟨rfl, rfl⟩
  have hK0 := hS.get (i := 0) rfl
  refine ⟨hK0, ?_⟩
  refine ZL.take 6 rfl (by kernel_rfl) rfl rfl rfl hK0 (fun w hK => Res.assign rfl rfl) ?_
  refine ZL.take 7 rfl (by kernel_rfl) rfl rfl rfl hK0 (fun w hK => Res.assign rfl rfl) ?_
  refine ZL.end 8 (by decide) rfl (by kernel_rfl) rfl (Stp.storeAll 0 rfl rfl rfl (sz67) one3 rfl hS rfl rfl ?_)
  intro w hS hpt
  refine ZL.done (by kernel_rfl) (Thn_n ?_)
  refine CW.seq ?_
  refine CW.region ?_
  refine WL.step rfl (Stp.res rfl rfl (Res.move rfl rfl) ?_)
  refine WL.step rfl (Stp.res rfl rfl (Res.move rfl rfl) ?_)
  refine WL.step rfl (Stp.res rfl rfl (Res.loadAll (cs := #[Go.E.str (c.take 100), .int .i64 t, .int .i64 z]) rfl rfl underlying67 rfl (sz67) (hS.get (i := 0) rfl)) ?_)
  refine WL.step rfl (Stp.callG (args := [_, _, _]) rfl rfl rfl cal44 rfl rfl hS (gseal_all _ _ (l0.take 40) (l1.take 40) (c.take 100) t z _ _ hS.on (hgl.mono ((hG1).trans hG2).1) (hkv.mono (hG2).1) hcv ht hz) ?_)
  rintro _ w M3 hS hG3 ⟨s3, rfl, hs3⟩
  refine WL.step rfl (Stp.res rfl rfl (Res.move rfl rfl) ?_)
  refine WL.step rfl (Stp.res rfl rfl (Res.extract (l := [_, _]) rfl rfl rfl) ?_)
  refine WL.step rfl (Stp.res rfl rfl (Res.extract (l := [_, _]) rfl rfl rfl) ?_)
  refine WL.step rfl (Stp.res rfl rfl (Res.assign rfl rfl) ?_)
  refine WL.step rfl (Stp.res rfl rfl (Res.assign rfl rfl) ?_)
  refine WL.nil (Thn_n ?_)
  refine CW.seq ?_
  refine CW.region ?_
  refine WL.step rfl (Stp.res rfl rfl (Res.move rfl rfl) ?_)
  refine WL.step rfl (Stp.res rfl rfl (Res.move rfl rfl) ?_)
  refine WL.step rfl (Stp.res rfl rfl (Res.loadAll (cs := #[Go.E.str (c.take 100), .int .i64 t, .int .i64 z]) rfl rfl underlying67 rfl (sz67) (hS.get (i := 0) rfl)) ?_)
  refine WL.step rfl (Stp.callG (args := [_, _, _]) rfl rfl rfl cal45 rfl rfl hS (rseal_all _ _ (l0.take 40) (l1.take 40) (c.take 100) t z _ _ hS.on (hkv.mono ((hG2).trans hG3).1) (hcv.mono (hG3).1) ht hz) ?_)
  rintro _ w M4 hS hG4 ⟨s4, rfl, hs4⟩
  refine WL.step rfl (Stp.res rfl rfl (Res.move rfl rfl) ?_)
  refine WL.step rfl (Stp.res rfl rfl (Res.extract (l := [_, _]) rfl rfl rfl) ?_)
  refine WL.step rfl (Stp.res rfl rfl (Res.extract (l := [_, _]) rfl rfl rfl) ?_)
  refine WL.step rfl (Stp.res rfl rfl (Res.assign rfl rfl) ?_)
  refine WL.step rfl (Stp.res rfl rfl (Res.assign rfl rfl) ?_)
  refine WL.nil (Thn_n ?_)
  refine CW.seq ?_
  refine CW.region ?_
  refine WL.step rfl (Stp.res rfl rfl (Res.move rfl rfl) ?_)
  refine WL.step rfl (Stp.res rfl rfl (Res.move rfl rfl) ?_)
  refine WL.step rfl (Stp.res rfl rfl (Res.loadAll (cs := #[Go.E.str (c.take 100), .int .i64 t, .int .i64 z]) rfl rfl underlying67 rfl (sz67) (hS.get (i := 0) rfl)) ?_)
  refine WL.step rfl (Stp.callG (args := [_, _, _]) rfl rfl rfl cal46 rfl rfl hS (ganswer_all _ _ (l0.take 40) (l1.take 40) (c.take 100) t z _ _ hS.on (hgl.mono ((((hG1).trans hG2).trans hG3).trans hG4).1) (hkv.mono (((hG2).trans hG3).trans hG4).1) (hcv.mono ((hG3).trans hG4).1) ht hz) ?_)
  rintro _ w M5 hS hG5 ⟨s5, rfl, hs5⟩
  refine WL.step rfl (Stp.res rfl rfl (Res.move rfl rfl) ?_)
  refine WL.step rfl (Stp.res rfl rfl (Res.extract (l := [_, _]) rfl rfl rfl) ?_)
  refine WL.step rfl (Stp.res rfl rfl (Res.extract (l := [_, _]) rfl rfl rfl) ?_)
  refine WL.step rfl (Stp.res rfl rfl (Res.assign rfl rfl) ?_)
  refine WL.step rfl (Stp.res rfl rfl (Res.assign rfl rfl) ?_)
  refine WL.nil (Thn_n ?_)
  refine CW.seq ?_
  refine CW.region ?_
  refine WL.step rfl (Stp.res rfl rfl (Res.move rfl rfl) ?_)
  refine WL.step rfl (Stp.res rfl rfl (Res.move rfl rfl) ?_)
  refine WL.step rfl (Stp.res rfl rfl (Res.loadAll (cs := #[Go.E.str (c.take 100), .int .i64 t, .int .i64 z]) rfl rfl underlying67 rfl (sz67) (hS.get (i := 0) rfl)) ?_)
  refine WL.step rfl (Stp.callG (args := [_, _, _]) rfl rfl rfl cal47 rfl rfl hS (ranswer_all _ _ (l0.take 40) (l1.take 40) (c.take 100) t z _ _ hS.on (hkv.mono ((((hG2).trans hG3).trans hG4).trans hG5).1) (hcv.mono (((hG3).trans hG4).trans hG5).1) ht hz) ?_)
  rintro _ w M6 hS hG6 ⟨s6, rfl, hs6⟩
  refine WL.step rfl (Stp.res rfl rfl (Res.move rfl rfl) ?_)
  refine WL.step rfl (Stp.res rfl rfl (Res.extract (l := [_, _]) rfl rfl rfl) ?_)
  refine WL.step rfl (Stp.res rfl rfl (Res.extract (l := [_, _]) rfl rfl rfl) ?_)
  refine WL.step rfl (Stp.res rfl rfl (Res.assign rfl rfl) ?_)
  refine WL.step rfl (Stp.res rfl rfl (Res.assign rfl rfl) ?_)
  refine WL.nil (Thn_n ?_)
  refine CW.seq ?_
  refine CW.region ?_
  refine WL.step rfl (Stp.res rfl rfl (Res.move rfl rfl) ?_)
  refine WL.step rfl (Stp.res rfl rfl (Res.move rfl rfl) ?_)
  refine WL.step rfl (Stp.callA (args := [_, _]) rfl rfl rfl cal24 rfl rfl (samebytes_t _ _ _ _ M6 _ hS.on (hs3.mono (((hG4).trans hG5).trans hG6).1) (hs4.mono ((hG5).trans hG6).1) rfl) ?_)
  refine WL.step rfl (Stp.res rfl rfl (Res.move rfl rfl) ?_)
  refine WL.stepG 3 true rfl rfl rfl rfl (Stp.res rfl rfl (Res.move rfl rfl) ?_)
  refine WL.stepG 3 true rfl rfl rfl rfl (Stp.res rfl rfl (Res.move rfl rfl) ?_)
  refine WL.stepG 3 true rfl rfl rfl rfl (Stp.res rfl rfl (Res.to (Res.eql rfl rfl rfl) rfl) ?_)
  refine WL.step rfl (Stp.res rfl rfl (Res.pickT rfl rfl rfl) ?_)
  refine WL.step rfl (Stp.res rfl rfl (Res.move rfl rfl) ?_)
  refine WL.stepG 8 true rfl rfl rfl rfl (Stp.res rfl rfl (Res.move rfl rfl) ?_)
  refine WL.stepG 8 true rfl rfl rfl rfl (Stp.res rfl rfl (Res.move rfl rfl) ?_)
  refine WL.stepG 8 true rfl rfl rfl rfl (Stp.callA (args := [_, _]) rfl rfl rfl cal24 rfl rfl (samebytes_t _ _ _ _ M6 _ hS.on (hs5.mono (hG6).1) hs6 rfl) ?_)
  refine WL.step rfl (Stp.res rfl rfl (Res.pickT rfl rfl rfl) ?_)
  refine WL.step rfl (Stp.res rfl rfl (Res.move rfl rfl) ?_)
  refine WL.stepG 13 true rfl rfl rfl rfl (Stp.res rfl rfl (Res.move rfl rfl) ?_)
  refine WL.stepG 13 true rfl rfl rfl rfl (Stp.res rfl rfl (Res.move rfl rfl) ?_)
  refine WL.stepG 13 true rfl rfl rfl rfl (Stp.res rfl rfl (Res.to (Res.eql rfl rfl rfl) rfl) ?_)
  refine WL.step rfl (Stp.res rfl rfl (Res.pickT rfl rfl rfl) ?_)
  refine WL.step rfl (Stp.res rfl rfl (Res.move rfl rfl) ?_)
  refine WL.stepG 18 true rfl rfl rfl rfl (Stp.callG (args := []) rfl rfl rfl cal39 rfl rfl hS (works20_ok _ _ hS.on (hgl.mono ((((((hG1).trans hG2).trans hG3).trans hG4).trans hG5).trans hG6).1)) ?_)
  rintro _ w M7 hS hG7 rfl
  refine WL.step rfl (Stp.res rfl rfl (Res.pickT rfl rfl rfl) ?_)
  refine WL.step rfl (Stp.res rfl rfl (Res.assign rfl rfl) ?_)
  refine WL.nil (Thn_n ?_)
  refine CW.ret ?_
  have hGA := ((((((hG1).trans hG2).trans hG3).trans hG4).trans hG5).trans hG6).trans hG7
  exact fq_tmp rfl rfl ⟨M7, hS.drop (i := 0) rfl hb5, hGA.1, hGA.2, rfl⟩
end Go.Proofs.YtcmgimicdcchlaaGreatDoor
