/- Lemmas on the way to the statement; no condition of its own. -/
import Derived.Test.YtcmgimicdcchlaaGreatDoorZU1
set_option linter.unusedVariables false
set_option maxRecDepth 20000
namespace Go.Proofs.YtcmgimicdcchlaaGreatDoor
open Go.Proofs.Tryz
open Go Go.E
theorem topen_ok (kv bv : Value) (key b c : List UInt8) (t z : Nat) (w0 : World) (M : PH) (hM : On M w0) (hgl : GL M) (hkey : Bs M kv key) (hb : Bs M bv b) (ho : Seal.openR key 11 b = (Tick.enc 0 [c, Tick.be8 t, Tick.be8 z], 0)) (hc : Tick.okName c) (ht : t ≤ 1099511627776) (hz : z ≤ 2305843009213693952) : Ok Tryz.prog 48 #[kv, bv] w0 M (fun M' r => M = M' ∧ r = .tuple #[.agg #[Go.E.str c, .int .i64 (t : Int), .int .i64 (z : Int)], .int .i64 0]) := by
  have hS := hM.st
  refine enterB (l := [kv, bv]) 64 func48 rfl ntmps48 rfl ?_
  refine CW.seq ?_
  refine CW.region ?_
  refine WL.step rfl (Stp.alloc (cs := #[Go.E.str [], .int .i64 0, .int .i64 0]) rfl zAu rfl rfl rfl hS ?_)
  intro b4 w hb4 hS hkp hnw
  refine WL.step rfl (Stp.res rfl rfl (Res.assign rfl rfl) ?_)
  refine WL.nil (Thn_n ?_)
  refine CW.seq ?_
  refine CW.region ?_
  refine WL.step rfl (Stp.res rfl rfl (Res.move rfl rfl) ?_)
  refine WL.step rfl (Stp.res rfl rfl (Res.move rfl rfl) ?_)
  refine WL.step rfl (Stp.callG (args := [_, _, _]) rfl rfl rfl cal91 rfl rfl hS (open_all _ _ key b 11 _ _ hS.on hgl hkey hb) ?_)
  rintro _ w M0 hS hG0 ⟨ow, rfl, hv⟩
  rw [ho] at hv ⊢
  change Bs M0 ow (Tick.enc 0 [c, Tick.be8 t, Tick.be8 z]) at hv
  refine WL.step rfl (Stp.res rfl rfl (Res.move rfl rfl) ?_)
  refine WL.step rfl (Stp.res rfl rfl (Res.extract (l := [_, _]) rfl rfl rfl) ?_)
  refine WL.step rfl (Stp.res rfl rfl (Res.extract (l := [_, _]) rfl rfl rfl) ?_)
  refine WL.step rfl (Stp.res rfl rfl (Res.assign rfl rfl) ?_)
  refine WL.step rfl (Stp.res rfl rfl (Res.assign rfl rfl) ?_)
  refine WL.nil (Thn_n ?_)
  refine CW.seq ?_
  refine CW.seq ?_
  refine CW.region ?_
  refine WL.step rfl (Stp.res rfl rfl (Res.move rfl rfl) ?_)
  refine WL.step rfl (Stp.res rfl rfl (Res.toF (Res.neq rfl rfl rfl) (fun h => h rfl)) ?_)
  refine WL.nil (Thn_n ?_)
  refine CW.condF rfl ?_
  refine CW.skip (Thn_n ?_)
  refine CW.seq ?_
  refine CW.region ?_
  refine WL.step rfl (Stp.res rfl rfl (Res.move rfl rfl) ?_)
  refine WL.step rfl (Stp.callG (args := [_, _]) rfl rfl rfl cal81 rfl rfl hS (fields_ok _ [c, Tick.be8 t, Tick.be8 z] _ _ hS.on hv (by show 0 < 3; decide) (by show 3 ≤ 255; decide) (by rw [Tick.enc_length]; simp only [List.map_cons, List.map_nil, List.sum_cons, List.sum_nil, Tick.be8_length]; have := hc.2; omega)) ?_)
  rintro _ w M1 hS hG1 ⟨fb, fc, xs, rfl, hfc1, hfc2, hfcell, hfb⟩
  change 3 ≤ fc at hfc1
  obtain ⟨y0, hy0, hyb0⟩ := hfb.2 0 (by show 0 < 3; decide)
  have hyc0 := hfcell _ _ hy0
  obtain ⟨y1, hy1, hyb1⟩ := hfb.2 1 (by show 1 < 3; decide)
  have hyc1 := hfcell _ _ hy1
  obtain ⟨y2, hy2, hyb2⟩ := hfb.2 2 (by show 2 < 3; decide)
  have hyc2 := hfcell _ _ hy2
  refine WL.step rfl (Stp.res rfl rfl (Res.move rfl rfl) ?_)
  refine WL.step rfl (Stp.res rfl rfl (Res.extract (l := [_, _]) rfl rfl rfl) ?_)
  refine WL.step rfl (Stp.res rfl rfl (Res.extract (l := [_, _]) rfl rfl rfl) ?_)
  refine WL.step rfl (Stp.res rfl rfl (Res.assign rfl rfl) ?_)
  refine WL.step rfl (Stp.res rfl rfl (Res.assign rfl rfl) ?_)
  refine WL.nil (Thn_n ?_)
  refine CW.seq ?_
  refine CW.seq ?_
  refine CW.region ?_
  refine WL.step rfl (Stp.res rfl rfl (Res.move rfl rfl) ?_)
  refine WL.step rfl (Stp.res rfl rfl (Res.neqNN rfl rfl underlying86) ?_)
  refine WL.nil (Thn_n ?_)
  refine CW.condF rfl ?_
  refine CW.skip (Thn_n ?_)
  refine CW.seq ?_
  refine CW.region ?_
  refine WL.step rfl (Stp.res rfl rfl (Res.move rfl rfl) ?_)
  refine WL.step rfl (Stp.res rfl rfl (Res.cast (Res.sliceLo (l := 1) rfl rfl rfl underlying94 sz30 (by show 1 ≤ 3; decide)) (v' := .slice (some ⟨fb, 1, none⟩) 2 (fc - 1)) (by rw [if_neg (by omega)]; rfl)) ?_)
  refine WL.step rfl (Stp.callG (args := [_]) rfl rfl rfl cal82 rfl rfl hS (numbers_ok fb 1 2 (fc - 1) [t, z] (fun j => match j with | 0 => y1 | 1 => y2 | _ => .nilIface) _ _ hS.on rfl (by decide) (fun j hj => by rcases (by omega : j = 0 ∨ j = 1) with rfl | rfl <;> first | exact ⟨hyc1, hyb1⟩ | exact ⟨hyc2, hyb2⟩) (fun j => by rcases (by omega : j = 0 ∨ j = 1 ∨ 2 ≤ j) with rfl | rfl | hj <;> first | (show t ≤ _; omega) | (show z ≤ _; omega) | (rw [List.getD_eq_getElem?_getD, List.getElem?_eq_none (by simpa using hj)]; decide))) ?_)
  rintro _ w M2 hS hG2 ⟨nb, nc, rfl, hnv⟩
  have hn0 := hnv 0 (by decide)
  have hn1 := hnv 1 (by decide)
  refine WL.step rfl (Stp.res rfl rfl (Res.move rfl rfl) ?_)
  refine WL.step rfl (Stp.res rfl rfl (Res.extract (l := [_, _]) rfl rfl rfl) ?_)
  refine WL.step rfl (Stp.res rfl rfl (Res.extract (l := [_, _]) rfl rfl rfl) ?_)
  refine WL.step rfl (Stp.res rfl rfl (Res.assign rfl rfl) ?_)
  refine WL.step rfl (Stp.res rfl rfl (Res.assign rfl rfl) ?_)
  refine WL.nil (Thn_n ?_)
  refine CW.seq ?_
  refine CW.seq ?_
  refine CW.region ?_
  refine WL.step rfl (Stp.res rfl rfl (Res.move rfl rfl) ?_)
  refine WL.step rfl (Stp.res rfl rfl (Res.neqNN rfl rfl underlying86) ?_)
  refine WL.nil (Thn_n ?_)
  refine CW.condF rfl ?_
  refine CW.skip (Thn_n ?_)
  refine CW.seq ?_
  have hS := hS.drew
  have hK0 := hS.on
  refine CW.held (fun w => On M2 w) mixed ?_
  refine AL.take 0 rfl (by kernel_rfl) (by kernel_rfl) (by kernel_rfl) rfl rfl rfl hK0 (fun w hK => Res.move rfl rfl) ?_
  refine AL.take 1 rfl (by kernel_rfl) (by kernel_rfl) (by kernel_rfl) rfl rfl rfl hK0 (fun w hK => Res.idxS1 (k := 0) rfl rfl rfl underlying94 sz30 rfl (by simp)) ?_
  refine AL.take 2 rfl (by kernel_rfl) (by kernel_rfl) (by kernel_rfl) rfl rfl rfl hK0 (fun w hK => Res.load1 (v := y0) rfl rfl underlying30 rfl (w := w) (hK.st.cell (PH.cell_mono hG2.1 hyc0))) ?_
  refine AL.take 3 rfl (by kernel_rfl) (by kernel_rfl) (by kernel_rfl) rfl rfl rfl hK0 (fun w hK => Res.b2s rfl rfl hK.st (hyb0.mono hG2.1) underlying30 underlying5 underlying9) ?_
  refine AL.take 4 rfl (by kernel_rfl) (by kernel_rfl) (by kernel_rfl) rfl rfl rfl hK0 (fun w hK => Res.move rfl rfl) ?_
  refine AL.take 5 rfl (by kernel_rfl) (by kernel_rfl) (by kernel_rfl) rfl rfl rfl hK0 (fun w hK => Res.idxS1 (k := 0) rfl rfl rfl underlying117 sz3 rfl (by decide)) ?_
  refine AL.take 6 rfl (by kernel_rfl) (by kernel_rfl) (by kernel_rfl) rfl rfl rfl hK0 (fun w hK => Res.load1 (v := .int .i64 ((t : Nat) : Int)) rfl rfl underlying3 rfl (w := w) (hK.st.cell hn0)) ?_
  refine AL.take 7 rfl (by kernel_rfl) (by kernel_rfl) (by kernel_rfl) rfl rfl rfl hK0 (fun w hK => Res.move rfl rfl) ?_
  refine AL.take 8 rfl (by kernel_rfl) (by kernel_rfl) (by kernel_rfl) rfl rfl rfl hK0 (fun w hK => Res.idxS1 (k := 1) rfl rfl rfl underlying117 sz3 rfl (by decide)) ?_
  refine AL.take 9 rfl (by kernel_rfl) (by kernel_rfl) (by kernel_rfl) rfl rfl rfl hK0 (fun w hK => Res.load1 (v := .int .i64 ((z : Nat) : Int)) rfl rfl underlying3 rfl (w := w) (hK.st.cell hn1)) ?_
  refine AL.take 10 rfl (by kernel_rfl) (by kernel_rfl) (by kernel_rfl) rfl rfl rfl hK0 (fun w hK => Res.build (vals := [(0, Go.E.str c), (1, .int .i64 (t : Int)), (2, .int .i64 (z : Int))]) (cs := #[Go.E.str c, .int .i64 (t : Int), .int .i64 (z : Int)]) rfl rfl (fun _ => by kernel_rfl)) ?_
  refine AL.one 11 rfl (by kernel_rfl) rfl (Stp.alloc (cs := #[Go.E.str [], .int .i64 0, .int .i64 0]) rfl zAu rfl rfl rfl hS ?_)
  intro b11 w hb11 hS hkp hnw
  have hK0 := hS.on
  refine ⟨hK0, ?_⟩
  refine AL.one 12 rfl (by kernel_rfl) rfl (Stp.storeAll 0 rfl rfl rfl (sz67) one3 rfl hS rfl rfl ?_)
  intro w hS hpt
  have hK0 := hS.on
  refine ⟨hK0, ?_⟩
  refine AL.done (by kernel_rfl) (Thn_n ?_)
  refine CW.seq ?_
  refine CW.seq ?_
  refine CW.region ?_
  refine WL.step rfl (Stp.res rfl rfl (Res.loadAll (cs := #[Go.E.str c, .int .i64 (t : Int), .int .i64 (z : Int)]) rfl rfl underlying67 rfl (sz67) (hS.get (i := 0) rfl)) ?_)
  refine WL.step rfl (Stp.callG (args := [_]) rfl rfl rfl cal87 rfl rfl hS (tright_ok c t z _ _ hS.on hc ht) ?_)
  rintro _ w _ hS _ ⟨rfl, rfl⟩
  refine WL.step rfl (Stp.res rfl rfl (Res.assign rfl rfl) ?_)
  refine WL.nil (Thn_n ?_)
  refine CW.seq ?_
  refine CW.region ?_
  refine WL.step rfl (Stp.res rfl rfl (Res.move rfl rfl) ?_)
  refine WL.step rfl (Stp.res rfl rfl (Res.neqNN rfl rfl underlying86) ?_)
  refine WL.nil (Thn_n ?_)
  refine CW.condF rfl ?_
  refine CW.skip (Thn_n ?_)
  refine CW.seq ?_
  refine CW.region ?_
  refine WL.step rfl (Stp.res rfl rfl (Res.loadAll (cs := #[Go.E.str c, .int .i64 (t : Int), .int .i64 (z : Int)]) rfl rfl underlying67 rfl (sz67) (hS.get (i := 0) rfl)) ?_)
  refine WL.step rfl (Stp.res rfl rfl (Res.move rfl rfl) ?_)
  refine WL.step rfl (Stp.storeAll 1 rfl rfl rfl (sz67) one3 rfl hS rfl rfl ?_)
  intro w hS hpt
  refine WL.step rfl (Stp.res rfl rfl (Res.assign rfl rfl) ?_)
  refine WL.nil (Thn_n ?_)
  refine CW.ret ?_
  exact fq_cell_tmp rfl rfl rfl (hS.get (i := 1) rfl) underlying67 rfl sz67 ⟨M, (((hS.drop (i := 0) rfl hb11).drop (i := 0) rfl hb4)).known ((hG0.trans hG1).trans hG2).1, PH.le.refl _, Fresh.refl _ _, rfl, rfl⟩
end Go.Proofs.YtcmgimicdcchlaaGreatDoor
