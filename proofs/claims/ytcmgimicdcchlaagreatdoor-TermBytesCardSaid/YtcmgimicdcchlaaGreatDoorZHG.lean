/- Lemmas on the way to the statement; no condition of its own. -/
import Derived.Test.YtcmgimicdcchlaaGreatDoorQTr
import Derived.Test.YtcmgimicdcchlaaGreatDoorQE3
import Derived.Test.YtcmgimicdcchlaaGreatDoorQH3
set_option linter.unusedSimpArgs false
set_option linter.unusedVariables false
set_option maxRecDepth 20000
namespace Go.Proofs.YtcmgimicdcchlaaGreatDoor
open Go.Proofs.Tryz
open Go Go.E Go.Trm
theorem cal13 : Callable Tryz.prog 13 := ⟨Tryz.f13, func13, rfl, by kernel_rfl⟩
theorem cal14 : Callable Tryz.prog 14 := ⟨Tryz.f14, func14, rfl, by kernel_rfl⟩
theorem cal22 : Callable Tryz.prog 22 := ⟨Tryz.f22, func22, rfl, by kernel_rfl⟩
theorem cal25 : Callable Tryz.prog 25 := ⟨Tryz.f25, func25, rfl, by kernel_rfl⟩
theorem law_tbytes (t u : T) (da1 : Option Addr) (dc1 : Nat) (la1 : Option Addr) (lc1 : Nat) (da2 : Option Addr) (dc2 : Nat) (la2 : Option Addr) (lc2 : Nat) (w0 : World) (M : PH) (hM : On M w0) (hgl : GL M) (hge : GE M) (hd1 : Bs M (.slice da1 t.data.length dc1) t.data) (hs1 : Ts M (.slice la1 t.subs.length lc1) t.subs) (hd2 : Bs M (.slice da2 u.data.length dc2) u.data) (hs2 : Ts M (.slice la2 u.subs.length lc2) u.subs) : Ok Tryz.prog 4 #[.agg (TV t da1 dc1 la1 lc1), .agg (TV u da2 dc2 la2 lc2)] w0 M (fun M' r => r = .bool true) := by
  have hS := hM.st
  refine enterB (l := [.agg (TV (t) da1 dc1 la1 lc1), .agg (TV (u) da2 dc2 la2 lc2)]) 96 func4 rfl ntmps4 rfl ?_
  refine CW.seq ?_
  refine CW.region ?_
  refine WL.step rfl (Stp.boxA (cs := TV (t) da1 dc1 la1 lc1) rfl rfl rfl rfl hS ?_)
  intro b2_0 w hbb2_0 hS hkp hnw
  obtain ⟨M2, hG2, hbb2_0_2, hS⟩ : ∃ Mx, Grow w0.heap.size M Mx ∧ Kb Mx b2_0 (.cells (TV (t) da1 dc1 la1 lc1) 35 (0, 0)) ∧ St w0 w Mx ([]) := by
    have hF := hS.freezeG (i := 0) rfl hbb2_0
    exact ⟨_, hF.2, PH.add_self _ _ _, hF.1⟩
  refine WL.step rfl (Stp.boxA (cs := TV (u) da2 dc2 la2 lc2) rfl rfl rfl rfl hS ?_)
  intro b3_2 w hbb3_2 hS hkp hnw
  obtain ⟨M4, hG4, hbb3_2_4, hS⟩ : ∃ Mx, Grow w0.heap.size M2 Mx ∧ Kb Mx b3_2 (.cells (TV (u) da2 dc2 la2 lc2) 35 (0, 0)) ∧ St w0 w Mx ([]) := by
    have hF := hS.freezeG (i := 0) rfl hbb3_2
    exact ⟨_, hF.2, PH.add_self _ _ _, hF.1⟩
  refine WL.step rfl (Stp.res rfl rfl (Res.assign rfl rfl) ?_)
  refine WL.nil (Thn_n ?_)
  refine CW.seq ?_
  refine CW.region ?_
  refine WL.step rfl (Stp.res rfl rfl (Res.loadAll (cs := TV (t) da1 dc1 la1 lc1) rfl rfl underlying35 rfl sz35 (hS.on _ _ (hbb2_0_2.mono hG4.1))) ?_)
  refine WL.step rfl (Stp.res rfl rfl (Res.loadAll (cs := TV (u) da2 dc2 la2 lc2) rfl rfl underlying35 rfl sz35 (hS.on _ _ hbb3_2_4)) ?_)
  refine WL.step rfl (Stp.lit (vals := [(0, .agg (TV (t) da1 dc1 la1 lc1)), (1, .agg (TV (u) da2 dc2 la2 lc2))]) (cs := #[.int .i64 (t.kind), .slice (da1) (t.data.length) (dc1), Go.E.str (t.name), .int .i64 (t.num), .slice (la1) (t.subs.length) (lc1), .int .i64 (u.kind), .slice (da2) (u.data.length) (dc2), Go.E.str (u.name), .int .i64 (u.num), .slice (la2) (u.subs.length) (lc2)]) (e := 35) rfl rfl (fun _ => by kernel_rfl) rfl rfl hS ?_)
  intro b19_4 w hbb19_4 hS hkp hnw
  obtain ⟨M6, hG6, hbb19_4_6, hS⟩ : ∃ Mx, Grow w0.heap.size M4 Mx ∧ Kb Mx b19_4 (.cells (#[.int .i64 (t.kind), .slice (da1) (t.data.length) (dc1), Go.E.str (t.name), .int .i64 (t.num), .slice (la1) (t.subs.length) (lc1), .int .i64 (u.kind), .slice (da2) (u.data.length) (dc2), Go.E.str (u.name), .int .i64 (u.num), .slice (la2) (u.subs.length) (lc2)]) 35 (0, 0)) ∧ St w0 w Mx ([]) := by
    have hF := hS.freezeG (i := 0) rfl hbb19_4
    exact ⟨_, hF.2, PH.add_self _ _ _, hF.1⟩
  have hl7 : Ts M6 (.slice (some ⟨b19_4, 0, none⟩) (2) (2)) [t, u] := Ts2.lit2 hbb19_4_6 (Tm.of (hd1.mono ((hG2.trans hG4).trans hG6).1) (hs1.mono ((hG2.trans hG4).trans hG6).1)) (Tm.of (hd2.mono ((hG2.trans hG4).trans hG6).1) (hs2.mono ((hG2.trans hG4).trans hG6).1)) rfl
  refine WL.step rfl (Stp.callG (args := [.slice (some ⟨b19_4, 0, none⟩) (2) (2), .int .i64 ((2 : Nat) : Int), .int .i64 ((600 : Nat) : Int)]) rfl rfl rfl cal14 rfl rfl hS (some_okL ([t, u]) 2 600 _ _ _ _ hS.on (by decide) (by decide) hl7) ?_)
  rintro _ w M9 hS hG9 ⟨kkso8, hoso8, aso8, cso8, pso8, dso8, rfl, hsso8, htso8⟩
  have hkl := hoso8.1
  simp only [List.length_append, List.length_cons, List.length_nil, List.length_singleton] at hkl
  have hml : (kkso8.map (plainT 10)).length = kkso8.length := List.length_map ..
  refine WL.step rfl (Stp.res rfl rfl (Res.move rfl rfl) ?_)
  refine WL.step rfl (Stp.res rfl rfl (Res.extract (l := [_, _]) rfl rfl rfl) ?_)
  refine WL.step rfl (Stp.res rfl rfl (Res.extract (l := [_, _]) rfl rfl rfl) ?_)
  refine WL.step rfl (Stp.res rfl rfl (Res.assign rfl rfl) ?_)
  refine WL.step rfl (Stp.res rfl rfl (Res.assign rfl rfl) ?_)
  refine WL.nil (Thn_n ?_)
  refine CW.seq ?_
  refine CW.seq ?_
  refine CW.region ?_
  refine WL.step rfl (Stp.res rfl rfl (Res.assign rfl rfl) ?_)
  refine WL.nil (Thn_n ?_)
  refine CW.block ?_
  refine CW.loop (σ := Nat) (fun i => [(5, .slice (aso8) (kkso8.length) (cso8)), (6, .slice (pso8) ((kkso8.map (plainT 10)).length) (dso8)), (7, .int .i64 ((i : Nat) : Int))])
    (fun i w' => i ≤ 2 ∧ St w0 w' M9 ([])) (fun i => 2 - i) 0 ⟨rfl, rfl, rfl, trivial⟩ ⟨by omega, hS⟩ ?_
  rintro i w ⟨hi, hS⟩
  refine CW.seq ?_
  refine CW.seq ?_
  refine CW.region ?_
  refine WL.step rfl (Stp.res rfl rfl (Res.move rfl rfl) ?_)
  refine WL.step rfl (Stp.res rfl rfl (Res.lss rfl rfl rfl) ?_)
  refine WL.nil (Thn_n ?_)
  refine CW.ite rfl (fun hc10 => ?_) (fun hc10 => ?_)
  · refine CW.skip (Thn_n ?_)
    refine CW.seq ?_
    refine CW.block ?_
    refine CW.seq ?_
    rcases hbr : bytesR (kkso8.getD i T0) with _ | b
    · have hfm := fine_map hoso8.2.1
      refine CW.region ?_
      refine WL.step rfl (Stp.res rfl rfl (Res.move rfl rfl) ?_)
      refine WL.step rfl (Stp.res rfl rfl (Res.move rfl rfl) ?_)
      obtain ⟨be11, oe11, dae11, dce11, sae11, sce11, eae11, hce11, hde11, hse11⟩ := Ts2.get (j := i) hsso8 (by omega)
      have hne11 := hse11.len
      refine WL.step rfl (Stp.res rfl rfl (Res.idxT 5 (k := i) rfl rfl eae11 rfl underlying22 sz35 (Int.toNat_natCast _) (by omega)) ?_)
      refine WL.step rfl (Stp.res rfl rfl (Res.loadN (r := (TV ((kkso8.getD i T0)) dae11 dce11 sae11 sce11).toList) rfl rfl underlying35 rfl sz35 rfl (fun j u hu => hS.cell (hce11 j u hu))) ?_)
      refine WL.step rfl (Stp.callG (args := [.agg (TV ((kkso8.getD i T0)) dae11 dce11 sae11 sce11)]) rfl rfl rfl cal20 rfl rfl hS ((by have h := Tbytes_ok (kkso8.getD i T0) _ _ _ _ _ _ hS.on (hgl.mono (((hG2.trans hG4).trans hG6).trans hG9).1) (hge.mono (((hG2.trans hG4).trans hG6).trans hG9).1) hde11 hse11 (hoso8.2.1 _ (getD_mem (by omega))); rw [hbr] at h; exact h)) ?_)
      rintro _ w M13 hS hG13 rfl
      refine WL.step rfl (Stp.res rfl rfl (Res.move rfl rfl) ?_)
      refine WL.step rfl (Stp.res rfl rfl (Res.extract (l := [_, _]) rfl rfl rfl) ?_)
      refine WL.step rfl (Stp.res rfl rfl (Res.extract (l := [_, _]) rfl rfl rfl) ?_)
      refine WL.step rfl (Stp.res rfl rfl (Res.assign rfl rfl) ?_)
      refine WL.step rfl (Stp.res rfl rfl (Res.assign rfl rfl) ?_)
      refine WL.nil (Thn_n ?_)
      refine CW.seq ?_
      have hbr2 := map_bytes (k := kkso8) (i := i) (by omega) hbr
      refine CW.region ?_
      refine WL.step rfl (Stp.res rfl rfl (Res.move rfl rfl) ?_)
      refine WL.step rfl (Stp.res rfl rfl (Res.move rfl rfl) ?_)
      obtain ⟨be14, oe14, dae14, dce14, sae14, sce14, eae14, hce14, hde14, hse14⟩ := Ts2.get (j := i) htso8 (by omega)
      have hne14 := hse14.len
      refine WL.step rfl (Stp.res rfl rfl (Res.idxT 5 (k := i) rfl rfl eae14 rfl underlying24 sz32 (Int.toNat_natCast _) (by omega)) ?_)
      refine WL.step rfl (Stp.res rfl rfl (Res.loadN (r := (TV (((kkso8.map (plainT 10)).getD i T0)) dae14 dce14 sae14 sce14).toList) rfl rfl underlying32 rfl sz32 rfl (fun j u hu => hS.cell (PH.cell_mono hG13.1 (hce14 j u hu)))) ?_)
      refine WL.step rfl (Stp.callG (args := [.agg (TV (((kkso8.map (plainT 10)).getD i T0)) dae14 dce14 sae14 sce14)]) rfl rfl rfl cal21 rfl rfl hS ((by have h := Rbytes_ok ((kkso8.map (plainT 10)).getD i T0) _ _ _ _ _ _ hS.on (hde14.mono hG13.1) (hse14.mono hG13.1) (hfm _ (getD_mem (by omega))); rw [hbr2] at h; exact h)) ?_)
      rintro _ w M16 hS hG16 rfl
      refine WL.step rfl (Stp.res rfl rfl (Res.move rfl rfl) ?_)
      refine WL.step rfl (Stp.res rfl rfl (Res.extract (l := [_, _]) rfl rfl rfl) ?_)
      refine WL.step rfl (Stp.res rfl rfl (Res.extract (l := [_, _]) rfl rfl rfl) ?_)
      refine WL.step rfl (Stp.res rfl rfl (Res.assign rfl rfl) ?_)
      refine WL.step rfl (Stp.res rfl rfl (Res.assign rfl rfl) ?_)
      refine WL.nil (Thn_n ?_)
      refine CW.seq ?_
      refine CW.region ?_
      refine WL.step rfl (Stp.res rfl rfl (Res.move rfl rfl) ?_)
      refine WL.step rfl (Stp.res rfl rfl (Res.move rfl rfl) ?_)
      refine WL.step rfl (Stp.res rfl rfl (Res.idxT 5 (k := i) rfl rfl eae11 rfl underlying22 sz35 (Int.toNat_natCast _) (by omega)) ?_)
      refine WL.step rfl (Stp.res rfl rfl (Res.loadN (r := (TV ((kkso8.getD i T0)) dae11 dce11 sae11 sce11).toList) rfl rfl underlying35 rfl sz35 rfl (fun j u hu => hS.cell (PH.cell_mono (hG13.trans hG16).1 (hce11 j u hu)))) ?_)
      refine WL.step rfl (Stp.callG (args := [.agg (TV ((kkso8.getD i T0)) dae11 dce11 sae11 sce11)]) rfl rfl rfl cal22 rfl rfl hS ((by have h := Tsize_ok (kkso8.getD i T0) _ _ _ _ _ _ hS.on (hgl.mono (((((hG2.trans hG4).trans hG6).trans hG9).trans hG13).trans hG16).1) (hge.mono (((((hG2.trans hG4).trans hG6).trans hG9).trans hG13).trans hG16).1) (hde11.mono (hG13.trans hG16).1) (hse11.mono (hG13.trans hG16).1) (hoso8.2.1 _ (getD_mem (by omega))); rw [hbr] at h; exact h)) ?_)
      rintro _ w _ hS _ ⟨rfl, rfl⟩
      refine WL.step rfl (Stp.res rfl rfl (Res.move rfl rfl) ?_)
      refine WL.step rfl (Stp.res rfl rfl (Res.extract (l := [_, _]) rfl rfl rfl) ?_)
      refine WL.step rfl (Stp.res rfl rfl (Res.extract (l := [_, _]) rfl rfl rfl) ?_)
      refine WL.step rfl (Stp.res rfl rfl (Res.assign rfl rfl) ?_)
      refine WL.step rfl (Stp.res rfl rfl (Res.assign rfl rfl) ?_)
      refine WL.nil (Thn_n ?_)
      refine CW.seq ?_
      refine CW.region ?_
      refine WL.step rfl (Stp.res rfl rfl (Res.move rfl rfl) ?_)
      refine WL.step rfl (Stp.res rfl rfl (Res.move rfl rfl) ?_)
      refine WL.step rfl (Stp.res rfl rfl (Res.idxT 5 (k := i) rfl rfl eae14 rfl underlying24 sz32 (Int.toNat_natCast _) (by omega)) ?_)
      refine WL.step rfl (Stp.res rfl rfl (Res.loadN (r := (TV (((kkso8.map (plainT 10)).getD i T0)) dae14 dce14 sae14 sce14).toList) rfl rfl underlying32 rfl sz32 rfl (fun j u hu => hS.cell (PH.cell_mono (hG13.trans hG16).1 (hce14 j u hu)))) ?_)
      refine WL.step rfl (Stp.callG (args := [.agg (TV (((kkso8.map (plainT 10)).getD i T0)) dae14 dce14 sae14 sce14)]) rfl rfl rfl cal23 rfl rfl hS ((by have h := Rsize_ok ((kkso8.map (plainT 10)).getD i T0) _ _ _ _ _ _ hS.on (hde14.mono (hG13.trans hG16).1) (hse14.mono (hG13.trans hG16).1) (hfm _ (getD_mem (by omega))); rw [hbr2] at h; exact h)) ?_)
      rintro _ w _ hS _ ⟨rfl, rfl⟩
      refine WL.step rfl (Stp.res rfl rfl (Res.move rfl rfl) ?_)
      refine WL.step rfl (Stp.res rfl rfl (Res.extract (l := [_, _]) rfl rfl rfl) ?_)
      refine WL.step rfl (Stp.res rfl rfl (Res.extract (l := [_, _]) rfl rfl rfl) ?_)
      refine WL.step rfl (Stp.res rfl rfl (Res.assign rfl rfl) ?_)
      refine WL.step rfl (Stp.res rfl rfl (Res.assign rfl rfl) ?_)
      refine WL.nil (Thn_n ?_)
      refine CW.seq ?_
      refine CW.region ?_
      refine WL.step rfl (Stp.res rfl rfl (Res.move rfl rfl) ?_)
      refine WL.step rfl (Stp.res rfl rfl (Res.move rfl rfl) ?_)
      refine WL.step rfl (Stp.callA (args := [.slice (none) (0) (0), .slice (none) (0) (0)]) rfl rfl rfl cal24 rfl rfl (samebytes_ok _ _ (([] : List UInt8)) (([] : List UInt8)) M16 _ hS.on (Bs.nil _) (Bs.nil _)) ?_)
      refine WL.step rfl (Stp.res rfl rfl (Res.not (b := true) rfl rfl (bT (rfl))) ?_)
      refine WL.step rfl (Stp.res rfl rfl (Res.move rfl rfl) ?_)
      refine WL.stepG 4 false rfl rfl rfl rfl (Stp.res rfl rfl (Res.move rfl rfl) ?_)
      refine WL.stepG 4 false rfl rfl rfl rfl (Stp.res rfl rfl (Res.move rfl rfl) ?_)
      refine WL.stepG 4 false rfl rfl rfl rfl (Stp.res rfl rfl (Res.neq rfl rfl rfl) ?_)
      refine WL.step rfl (Stp.res rfl rfl (Res.pickF rfl rfl rfl) ?_)
      refine WL.step rfl (Stp.res rfl rfl (Res.move rfl rfl) ?_)
      refine WL.stepG 9 false rfl rfl rfl (bF (by omega)) (Stp.res rfl rfl (Res.move rfl rfl) ?_)
      refine WL.stepG 9 false rfl rfl rfl (bF (by omega)) (Stp.res rfl rfl (Res.move rfl rfl) ?_)
      refine WL.stepG 9 false rfl rfl rfl (bF (by omega)) (Stp.res rfl rfl (Res.neq rfl rfl rfl) ?_)
      refine WL.step rfl (Stp.res rfl rfl (Res.pickF rfl (bF (by omega)) rfl) ?_)
      refine WL.step rfl (Stp.res rfl rfl (Res.move rfl rfl) ?_)
      refine WL.stepG 14 false rfl rfl rfl (bF (by omega)) (Stp.res rfl rfl (Res.move rfl rfl) ?_)
      refine WL.stepG 14 false rfl rfl rfl (bF (by omega)) (Stp.res rfl rfl (Res.move rfl rfl) ?_)
      refine WL.stepG 14 false rfl rfl rfl (bF (by omega)) (Stp.res rfl rfl (Res.neq rfl rfl rfl) ?_)
      refine WL.step rfl (Stp.res rfl rfl (Res.pickF rfl (bF (by omega)) rfl) ?_)
      refine WL.nil (Thn_n ?_)
      refine CW.condF (bF (by omega)) ?_
      refine CW.skip (Blk_n (Thn_n ?_))
      refine CW.region ?_
      refine WL.step rfl (Stp.res rfl rfl (Res.move rfl rfl) ?_)
      refine WL.step rfl (Stp.res rfl rfl (Res.cast (Res.add rfl rfl rfl (by omega)) (show _ = (.int .i64 ((i + 1 : Nat) : Int) : Value) from congrArg (Value.int .i64) (by omega))) ?_)
      refine WL.step rfl (Stp.res rfl rfl (Res.assign rfl rfl) ?_)
      refine WL.nil (Thn_n ?_)
      exact ⟨i + 1, ⟨(rfl), (rfl), (by first | rfl | exact intc (by omega)), trivial⟩, ⟨by omega, hS.known (hG13.trans hG16).1⟩, by omega⟩
    · have hfm := fine_map hoso8.2.1
      refine CW.region ?_
      refine WL.step rfl (Stp.res rfl rfl (Res.move rfl rfl) ?_)
      refine WL.step rfl (Stp.res rfl rfl (Res.move rfl rfl) ?_)
      obtain ⟨be17, oe17, dae17, dce17, sae17, sce17, eae17, hce17, hde17, hse17⟩ := Ts2.get (j := i) hsso8 (by omega)
      have hne17 := hse17.len
      refine WL.step rfl (Stp.res rfl rfl (Res.idxT 5 (k := i) rfl rfl eae17 rfl underlying22 sz35 (Int.toNat_natCast _) (by omega)) ?_)
      refine WL.step rfl (Stp.res rfl rfl (Res.loadN (r := (TV ((kkso8.getD i T0)) dae17 dce17 sae17 sce17).toList) rfl rfl underlying35 rfl sz35 rfl (fun j u hu => hS.cell (hce17 j u hu))) ?_)
      refine WL.step rfl (Stp.callG (args := [.agg (TV ((kkso8.getD i T0)) dae17 dce17 sae17 sce17)]) rfl rfl rfl cal20 rfl rfl hS ((by have h := Tbytes_ok (kkso8.getD i T0) _ _ _ _ _ _ hS.on (hgl.mono (((hG2.trans hG4).trans hG6).trans hG9).1) (hge.mono (((hG2.trans hG4).trans hG6).trans hG9).1) hde17 hse17 (hoso8.2.1 _ (getD_mem (by omega))); rw [hbr] at h; exact h)) ?_)
      rintro _ w M19 hS hG19 ⟨ay18, cy18, rfl, hy18⟩
      refine WL.step rfl (Stp.res rfl rfl (Res.move rfl rfl) ?_)
      refine WL.step rfl (Stp.res rfl rfl (Res.extract (l := [_, _]) rfl rfl rfl) ?_)
      refine WL.step rfl (Stp.res rfl rfl (Res.extract (l := [_, _]) rfl rfl rfl) ?_)
      refine WL.step rfl (Stp.res rfl rfl (Res.assign rfl rfl) ?_)
      refine WL.step rfl (Stp.res rfl rfl (Res.assign rfl rfl) ?_)
      refine WL.nil (Thn_n ?_)
      refine CW.seq ?_
      have hbr2 := map_bytes (k := kkso8) (i := i) (by omega) hbr
      refine CW.region ?_
      refine WL.step rfl (Stp.res rfl rfl (Res.move rfl rfl) ?_)
      refine WL.step rfl (Stp.res rfl rfl (Res.move rfl rfl) ?_)
      obtain ⟨be20, oe20, dae20, dce20, sae20, sce20, eae20, hce20, hde20, hse20⟩ := Ts2.get (j := i) htso8 (by omega)
      have hne20 := hse20.len
      refine WL.step rfl (Stp.res rfl rfl (Res.idxT 5 (k := i) rfl rfl eae20 rfl underlying24 sz32 (Int.toNat_natCast _) (by omega)) ?_)
      refine WL.step rfl (Stp.res rfl rfl (Res.loadN (r := (TV (((kkso8.map (plainT 10)).getD i T0)) dae20 dce20 sae20 sce20).toList) rfl rfl underlying32 rfl sz32 rfl (fun j u hu => hS.cell (PH.cell_mono hG19.1 (hce20 j u hu)))) ?_)
      refine WL.step rfl (Stp.callG (args := [.agg (TV (((kkso8.map (plainT 10)).getD i T0)) dae20 dce20 sae20 sce20)]) rfl rfl rfl cal21 rfl rfl hS ((by have h := Rbytes_ok ((kkso8.map (plainT 10)).getD i T0) _ _ _ _ _ _ hS.on (hde20.mono hG19.1) (hse20.mono hG19.1) (hfm _ (getD_mem (by omega))); rw [hbr2] at h; exact h)) ?_)
      rintro _ w M22 hS hG22 ⟨ay21, cy21, rfl, hy21⟩
      refine WL.step rfl (Stp.res rfl rfl (Res.move rfl rfl) ?_)
      refine WL.step rfl (Stp.res rfl rfl (Res.extract (l := [_, _]) rfl rfl rfl) ?_)
      refine WL.step rfl (Stp.res rfl rfl (Res.extract (l := [_, _]) rfl rfl rfl) ?_)
      refine WL.step rfl (Stp.res rfl rfl (Res.assign rfl rfl) ?_)
      refine WL.step rfl (Stp.res rfl rfl (Res.assign rfl rfl) ?_)
      refine WL.nil (Thn_n ?_)
      refine CW.seq ?_
      refine CW.region ?_
      refine WL.step rfl (Stp.res rfl rfl (Res.move rfl rfl) ?_)
      refine WL.step rfl (Stp.res rfl rfl (Res.move rfl rfl) ?_)
      refine WL.step rfl (Stp.res rfl rfl (Res.idxT 5 (k := i) rfl rfl eae17 rfl underlying22 sz35 (Int.toNat_natCast _) (by omega)) ?_)
      refine WL.step rfl (Stp.res rfl rfl (Res.loadN (r := (TV ((kkso8.getD i T0)) dae17 dce17 sae17 sce17).toList) rfl rfl underlying35 rfl sz35 rfl (fun j u hu => hS.cell (PH.cell_mono (hG19.trans hG22).1 (hce17 j u hu)))) ?_)
      refine WL.step rfl (Stp.callG (args := [.agg (TV ((kkso8.getD i T0)) dae17 dce17 sae17 sce17)]) rfl rfl rfl cal22 rfl rfl hS ((by have h := Tsize_ok (kkso8.getD i T0) _ _ _ _ _ _ hS.on (hgl.mono (((((hG2.trans hG4).trans hG6).trans hG9).trans hG19).trans hG22).1) (hge.mono (((((hG2.trans hG4).trans hG6).trans hG9).trans hG19).trans hG22).1) (hde17.mono (hG19.trans hG22).1) (hse17.mono (hG19.trans hG22).1) (hoso8.2.1 _ (getD_mem (by omega))); rw [hbr] at h; exact h)) ?_)
      rintro _ w _ hS _ ⟨rfl, rfl⟩
      refine WL.step rfl (Stp.res rfl rfl (Res.move rfl rfl) ?_)
      refine WL.step rfl (Stp.res rfl rfl (Res.extract (l := [_, _]) rfl rfl rfl) ?_)
      refine WL.step rfl (Stp.res rfl rfl (Res.extract (l := [_, _]) rfl rfl rfl) ?_)
      refine WL.step rfl (Stp.res rfl rfl (Res.assign rfl rfl) ?_)
      refine WL.step rfl (Stp.res rfl rfl (Res.assign rfl rfl) ?_)
      refine WL.nil (Thn_n ?_)
      refine CW.seq ?_
      have hsz9 := map_size (k := kkso8) (i := i) (by omega) hbr
      refine CW.region ?_
      refine WL.step rfl (Stp.res rfl rfl (Res.move rfl rfl) ?_)
      refine WL.step rfl (Stp.res rfl rfl (Res.move rfl rfl) ?_)
      refine WL.step rfl (Stp.res rfl rfl (Res.idxT 5 (k := i) rfl rfl eae20 rfl underlying24 sz32 (Int.toNat_natCast _) (by omega)) ?_)
      refine WL.step rfl (Stp.res rfl rfl (Res.loadN (r := (TV (((kkso8.map (plainT 10)).getD i T0)) dae20 dce20 sae20 sce20).toList) rfl rfl underlying32 rfl sz32 rfl (fun j u hu => hS.cell (PH.cell_mono (hG19.trans hG22).1 (hce20 j u hu)))) ?_)
      refine WL.step rfl (Stp.callG (args := [.agg (TV (((kkso8.map (plainT 10)).getD i T0)) dae20 dce20 sae20 sce20)]) rfl rfl rfl cal23 rfl rfl hS ((by have h := Rsize_ok ((kkso8.map (plainT 10)).getD i T0) _ _ _ _ _ _ hS.on (hde20.mono (hG19.trans hG22).1) (hse20.mono (hG19.trans hG22).1) (hfm _ (getD_mem (by omega))); rw [hbr2] at h; exact h)) ?_)
      rintro _ w _ hS _ ⟨rfl, rfl⟩
      refine WL.step rfl (Stp.res rfl rfl (Res.move rfl rfl) ?_)
      refine WL.step rfl (Stp.res rfl rfl (Res.extract (l := [_, _]) rfl rfl rfl) ?_)
      refine WL.step rfl (Stp.res rfl rfl (Res.extract (l := [_, _]) rfl rfl rfl) ?_)
      refine WL.step rfl (Stp.res rfl rfl (Res.assign rfl rfl) ?_)
      refine WL.step rfl (Stp.res rfl rfl (Res.assign rfl rfl) ?_)
      refine WL.nil (Thn_n ?_)
      refine CW.seq ?_
      refine CW.region ?_
      refine WL.step rfl (Stp.res rfl rfl (Res.move rfl rfl) ?_)
      refine WL.step rfl (Stp.res rfl rfl (Res.move rfl rfl) ?_)
      refine WL.step rfl (Stp.callA (args := [.slice (ay18) ((b).length) (cy18), .slice (ay21) ((b).length) (cy21)]) rfl rfl rfl cal24 rfl rfl (samebytes_ok _ _ (b) (b) M22 _ hS.on (hy18.mono hG22.1) hy21) ?_)
      refine WL.step rfl (Stp.res rfl rfl (Res.not (b := true) rfl rfl (bT (rfl))) ?_)
      refine WL.step rfl (Stp.res rfl rfl (Res.move rfl rfl) ?_)
      refine WL.stepG 4 false rfl rfl rfl rfl (Stp.res rfl rfl (Res.move rfl rfl) ?_)
      refine WL.stepG 4 false rfl rfl rfl rfl (Stp.res rfl rfl (Res.move rfl rfl) ?_)
      refine WL.stepG 4 false rfl rfl rfl rfl (Stp.res rfl rfl (Res.neq rfl rfl rfl) ?_)
      refine WL.step rfl (Stp.res rfl rfl (Res.pickF rfl rfl rfl) ?_)
      refine WL.step rfl (Stp.res rfl rfl (Res.move rfl rfl) ?_)
      refine WL.stepG 9 false rfl rfl rfl (bF (by omega)) (Stp.res rfl rfl (Res.move rfl rfl) ?_)
      refine WL.stepG 9 false rfl rfl rfl (bF (by omega)) (Stp.res rfl rfl (Res.move rfl rfl) ?_)
      refine WL.stepG 9 false rfl rfl rfl (bF (by omega)) (Stp.res rfl rfl (Res.neq rfl rfl rfl) ?_)
      refine WL.step rfl (Stp.res rfl rfl (Res.pickF rfl (bF (by omega)) rfl) ?_)
      refine WL.step rfl (Stp.res rfl rfl (Res.move rfl rfl) ?_)
      refine WL.stepG 14 false rfl rfl rfl (bF (by omega)) (Stp.res rfl rfl (Res.move rfl rfl) ?_)
      refine WL.stepG 14 false rfl rfl rfl (bF (by omega)) (Stp.res rfl rfl (Res.move rfl rfl) ?_)
      refine WL.stepG 14 false rfl rfl rfl (bF (by omega)) (Stp.res rfl rfl (Res.neq rfl rfl rfl) ?_)
      refine WL.step rfl (Stp.res rfl rfl (Res.pickF rfl (bF (by omega)) rfl) ?_)
      refine WL.nil (Thn_n ?_)
      refine CW.condF (bF (by omega)) ?_
      refine CW.skip (Blk_n (Thn_n ?_))
      refine CW.region ?_
      refine WL.step rfl (Stp.res rfl rfl (Res.move rfl rfl) ?_)
      refine WL.step rfl (Stp.res rfl rfl (Res.cast (Res.add rfl rfl rfl (by omega)) (show _ = (.int .i64 ((i + 1 : Nat) : Int) : Value) from congrArg (Value.int .i64) (by omega))) ?_)
      refine WL.step rfl (Stp.res rfl rfl (Res.assign rfl rfl) ?_)
      refine WL.nil (Thn_n ?_)
      exact ⟨i + 1, ⟨(rfl), (rfl), (by first | rfl | exact intc (by omega)), trivial⟩, ⟨by omega, hS.known (hG19.trans hG22).1⟩, by omega⟩
  · refine CW.exit (Thn_x (Thn_x (Blk_x (Thn_n ?_))))
    refine CW.seq ?_
    have hS := hS.drew
    have hK0 : On M9 w := hS.on
    refine CW.held (fun w => On M9 w) mixed ?_
    refine AL.take 0 rfl (by kernel_rfl) (by kernel_rfl) (by kernel_rfl) rfl rfl rfl hK0 (fun w hK => Res.move rfl rfl) ?_
    obtain ⟨be24, oe24, dae24, dce24, sae24, sce24, eae24, hce24, hde24, hse24⟩ := Ts2.get (j := 0) hsso8 (by omega)
    have hne24 := hse24.len
    refine AL.take 1 rfl (by kernel_rfl) (by kernel_rfl) (by kernel_rfl) rfl rfl rfl hK0 (fun w hK => Res.idxT 5 (k := 0) rfl rfl eae24 rfl underlying22 sz35 (show (0 : Int).toNat = 0 from rfl) (by omega)) ?_
    refine AL.take 2 rfl (by kernel_rfl) (by kernel_rfl) (by kernel_rfl) rfl rfl rfl hK0 (fun w hK => Res.loadN (r := (TV ((kkso8.getD 0 T0)) dae24 dce24 sae24 sce24).toList) rfl rfl underlying35 rfl sz35 rfl (fun j u hu => hK.st.cell (hce24 j u hu))) ?_
    refine AL.take 3 rfl (by kernel_rfl) (by kernel_rfl) (by kernel_rfl) rfl rfl rfl hK0 (fun w hK => Res.move rfl rfl) ?_
    obtain ⟨be25, oe25, dae25, dce25, sae25, sce25, eae25, hce25, hde25, hse25⟩ := Ts2.get (j := 1) hsso8 (by omega)
    have hne25 := hse25.len
    refine AL.take 4 rfl (by kernel_rfl) (by kernel_rfl) (by kernel_rfl) rfl rfl rfl hK0 (fun w hK => Res.idxT 5 (k := 1) rfl rfl eae25 rfl underlying22 sz35 (show (1 : Int).toNat = 1 from rfl) (by omega)) ?_
    refine AL.take 5 rfl (by kernel_rfl) (by kernel_rfl) (by kernel_rfl) rfl rfl rfl hK0 (fun w hK => Res.loadN (r := (TV ((kkso8.getD 1 T0)) dae25 dce25 sae25 sce25).toList) rfl rfl underlying35 rfl sz35 rfl (fun j u hu => hK.st.cell (hce25 j u hu))) ?_
    refine AL.take 7 rfl (by kernel_rfl) (by kernel_rfl) (by kernel_rfl) rfl rfl rfl hK0 (fun w hK => Res.move rfl rfl) ?_
    obtain ⟨be26, oe26, dae26, dce26, sae26, sce26, eae26, hce26, hde26, hse26⟩ := Ts2.get (j := 0) htso8 (by omega)
    have hne26 := hse26.len
    refine AL.take 8 rfl (by kernel_rfl) (by kernel_rfl) (by kernel_rfl) rfl rfl rfl hK0 (fun w hK => Res.idxT 5 (k := 0) rfl rfl eae26 rfl underlying24 sz32 (show (0 : Int).toNat = 0 from rfl) (by omega)) ?_
    refine AL.take 9 rfl (by kernel_rfl) (by kernel_rfl) (by kernel_rfl) rfl rfl rfl hK0 (fun w hK => Res.loadN (r := (TV (((kkso8.map (plainT 10)).getD 0 T0)) dae26 dce26 sae26 sce26).toList) rfl rfl underlying32 rfl sz32 rfl (fun j u hu => hK.st.cell (hce26 j u hu))) ?_
    refine AL.take 10 rfl (by kernel_rfl) (by kernel_rfl) (by kernel_rfl) rfl rfl rfl hK0 (fun w hK => Res.move rfl rfl) ?_
    obtain ⟨be27, oe27, dae27, dce27, sae27, sce27, eae27, hce27, hde27, hse27⟩ := Ts2.get (j := 1) htso8 (by omega)
    have hne27 := hse27.len
    refine AL.take 11 rfl (by kernel_rfl) (by kernel_rfl) (by kernel_rfl) rfl rfl rfl hK0 (fun w hK => Res.idxT 5 (k := 1) rfl rfl eae27 rfl underlying24 sz32 (show (1 : Int).toNat = 1 from rfl) (by omega)) ?_
    refine AL.take 12 rfl (by kernel_rfl) (by kernel_rfl) (by kernel_rfl) rfl rfl rfl hK0 (fun w hK => Res.loadN (r := (TV (((kkso8.map (plainT 10)).getD 1 T0)) dae27 dce27 sae27 sce27).toList) rfl rfl underlying32 rfl sz32 rfl (fun j u hu => hK.st.cell (hce27 j u hu))) ?_
    refine AL.one 6 rfl (by kernel_rfl) rfl (Stp.callG (args := [.agg (TV ((kkso8.getD 0 T0)) dae24 dce24 sae24 sce24), .agg (TV ((kkso8.getD 1 T0)) dae25 dce25 sae25 sce25)]) rfl rfl rfl cal25 rfl rfl hS (Tsame_ok (kkso8.getD 0 T0) (kkso8.getD 1 T0) _ _ _ _ _ _ _ _ _ _ hS.on hde24 hse24 hde25 hse25) ?_)
    rintro _ w _ hS _ ⟨rfl, rfl⟩
    have hK0 : On M9 w := hS.on
    refine ⟨hK0, ?_⟩
    refine AL.one 13 rfl (by kernel_rfl) rfl (Stp.callG (args := [.agg (TV (((kkso8.map (plainT 10)).getD 0 T0)) dae26 dce26 sae26 sce26), .agg (TV (((kkso8.map (plainT 10)).getD 1 T0)) dae27 dce27 sae27 sce27)]) rfl rfl rfl cal17 rfl rfl hS (Rsame_ok ((kkso8.map (plainT 10)).getD 0 T0) ((kkso8.map (plainT 10)).getD 1 T0) _ _ _ _ _ _ _ _ _ _ hS.on hde26 hse26 hde27 hse27) ?_)
    rintro _ w _ hS _ ⟨rfl, rfl⟩
    have hK0 : On M9 w := hS.on
    refine ⟨hK0, ?_⟩
    refine AL.take 14 rfl (by kernel_rfl) (by kernel_rfl) (by kernel_rfl) rfl rfl rfl hK0 (fun w hK => Res.cast (Res.eqlBool rfl rfl rfl underlying4) (v' := .bool true) (congrArg Value.bool (beq_iff_eq.2 (decide_eq_decide.2 (show (Small (kkso8.getD 0 T0) ∧ Small (kkso8.getD 1 T0) ∧ (kkso8.getD 0 T0) = (kkso8.getD 1 T0)) ↔ (Small ((kkso8.map (plainT 10)).getD 0 T0) ∧ Small ((kkso8.map (plainT 10)).getD 1 T0) ∧ ((kkso8.map (plainT 10)).getD 0 T0) = ((kkso8.map (plainT 10)).getD 1 T0)) from by rw [map_getD (by omega), map_getD (by omega)]; exact plain_same.symm))))) ?_
    refine AL.take 15 rfl (by kernel_rfl) (by kernel_rfl) (by kernel_rfl) rfl rfl rfl hK0 (fun w hK => Res.move rfl rfl) ?_
    refine AL.oneG 16 15 true rfl (by kernel_rfl) rfl rfl rfl rfl (Stp.callG (args := []) rfl rfl rfl cal13 rfl rfl hS (works29_ok _ _ hS.on (hgl.mono (((hG2.trans hG4).trans hG6).trans hG9).1) (hge.mono (((hG2.trans hG4).trans hG6).trans hG9).1)) ?_)
    rintro _ w _ hS _ ⟨rfl, rfl⟩
    have hK0 : On M9 w := hS.on
    refine ⟨hK0, ?_⟩
    refine AL.take 17 rfl (by kernel_rfl) (by kernel_rfl) (by kernel_rfl) rfl rfl rfl hK0 (fun w hK => Res.pickT rfl rfl rfl) ?_
    refine AL.take 18 rfl (by kernel_rfl) (by kernel_rfl) (by kernel_rfl) rfl rfl rfl hK0 (fun w hK => Res.assign rfl rfl) ?_
    refine AL.done (by kernel_rfl) (Thn_n ?_)
    refine CW.ret ?_
    exact fq_tmp rfl rfl ⟨_, hS, (((hG2.trans hG4).trans hG6).trans hG9).1, (((hG2.trans hG4).trans hG6).trans hG9).2, rfl⟩
end Go.Proofs.YtcmgimicdcchlaaGreatDoor
