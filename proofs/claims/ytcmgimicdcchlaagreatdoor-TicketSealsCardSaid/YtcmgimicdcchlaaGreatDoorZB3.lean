/- Lemmas on the way to the statement; no condition of its own. -/
import Derived.Test.YtcmgimicdcchlaaGreatDoorZB2
set_option linter.unusedVariables false
set_option maxRecDepth 20000
namespace Go.Proofs.YtcmgimicdcchlaaGreatDoor
open Go.Proofs.Tryz
open Go Go.E
theorem rseal_no (kv cv : Value) (key conf c : List UInt8) (t z : Int) (w0 : World) (M : PH) (hM : On M w0) (hno : ¬ Tick.okAuth c t) : Ok Tryz.prog 45 #[kv, cv, .agg #[Go.E.str c, .int .i64 t, .int .i64 z]] w0 M (fun M' r => r = .tuple #[.slice none 0 0, .int .i64 200]) := by
  have hS := hM.st
  refine enterB (l := [kv, cv, .agg #[Go.E.str c, .int .i64 t, .int .i64 z]]) 36 func45 rfl ntmps45 rfl ?_
  refine CW.seq ?_
  refine CW.region ?_
  refine WL.step rfl (Stp.boxA rfl rfl rfl rfl hS ?_)
  intro b5 w hb5 hS hkp hnw
  refine WL.step rfl (Stp.res rfl rfl (Res.assign rfl rfl) ?_)
  refine WL.step rfl (Stp.res rfl rfl (Res.assign rfl rfl) ?_)
  refine WL.nil (Thn_n ?_)
  refine CW.seq ?_
  refine CW.seq ?_
  refine CW.region ?_
  refine WL.step rfl (Stp.res rfl rfl (Res.loadAll (cs := #[Go.E.str c, .int .i64 t, .int .i64 z]) rfl rfl underlying67 rfl (sz67) (hS.get (i := 0) rfl)) ?_)
  refine WL.step rfl (Stp.callG (args := [_]) rfl rfl rfl cal89 rfl rfl hS (rright_ok c t z _ _ hS.on) ?_)
  rintro _ w _ hS _ ⟨rfl, rfl⟩
  rw [decide_eq_false hno]
  refine WL.step rfl (Stp.res rfl rfl (Res.not rfl rfl rfl) ?_)
  refine WL.nil (Thn_n ?_)
  refine CW.condT rfl ?_
  refine CW.seq ?_
  refine CW.region ?_
  refine WL.step rfl (Stp.res rfl rfl (Res.assign rfl rfl) ?_)
  refine WL.step rfl (Stp.res rfl rfl (Res.assign rfl rfl) ?_)
  refine WL.nil (Thn_n ?_)
  refine CW.ret (Thn_r ?_)
  exact fq_tmp2 rfl rfl rfl ⟨M, hS.drop (i := 0) rfl hb5, PH.le.refl _, Fresh.refl _ _, rfl⟩
theorem rseal_yes (kv cv : Value) (key conf c : List UInt8) (t z : Int) (w0 : World) (M : PH) (hM : On M w0) (hkey : Bs M kv key) (hconf : Bs M cv conf) (ht : Tick.inI t) (hz : Tick.inI z) (hok : Tick.okAuth c t) : Ok Tryz.prog 45 #[kv, cv, .agg #[Go.E.str c, .int .i64 t, .int .i64 z]] w0 M (fun M' r => ∃ v, r = .tuple #[v, .int .i64 (Seal.sealR key 11 conf (Tick.enc 0 (Tick.authL c t z))).2] ∧ Bs M' v (Seal.sealR key 11 conf (Tick.enc 0 (Tick.authL c t z))).1) := by
  have hS := hM.st
  refine enterB (l := [kv, cv, .agg #[Go.E.str c, .int .i64 t, .int .i64 z]]) 36 func45 rfl ntmps45 rfl ?_
  refine CW.seq ?_
  refine CW.region ?_
  refine WL.step rfl (Stp.boxA rfl rfl rfl rfl hS ?_)
  intro b5 w hb5 hS hkp hnw
  refine WL.step rfl (Stp.res rfl rfl (Res.assign rfl rfl) ?_)
  refine WL.step rfl (Stp.res rfl rfl (Res.assign rfl rfl) ?_)
  refine WL.nil (Thn_n ?_)
  refine CW.seq ?_
  refine CW.seq ?_
  have hF := hS.freezeG (i := 0) rfl hb5
  obtain ⟨M1, hG1, hbox, hS⟩ : ∃ M1, Grow w0.heap.size M M1 ∧ M1 b5 = some (.cells #[Go.E.str c, .int .i64 t, .int .i64 z] 67 (0, 0)) ∧ St w0 w M1 [] := ⟨_, hF.2, PH.add_self _ _ _, hF.1⟩
  refine CW.region ?_
  refine WL.step rfl (Stp.res rfl rfl (Res.loadAll (cs := #[Go.E.str c, .int .i64 t, .int .i64 z]) rfl rfl underlying67 rfl (sz67) (hS.on _ _ hbox)) ?_)
  refine WL.step rfl (Stp.callG (args := [_]) rfl rfl rfl cal89 rfl rfl hS (rright_ok c t z _ _ hS.on) ?_)
  rintro _ w _ hS _ ⟨rfl, rfl⟩
  rw [decide_eq_true hok]
  refine WL.step rfl (Stp.res rfl rfl (Res.not rfl rfl rfl) ?_)
  refine WL.nil (Thn_n ?_)
  refine CW.condF rfl ?_
  refine CW.skip (Thn_n ?_)
  refine CW.seq ?_
  obtain ⟨hc, hct⟩ := hok
  have hcl := hc.2
  obtain ⟨MC, hMC, hGC⟩ : ∃ MC, MC = M1 ∧ Grow w0.heap.size M1 MC := ⟨M1, rfl, Grow.refl _ _⟩
  rw [← hMC] at hS
  clear hMC
  have hS := hS.drew
  refine CW.post (fun L' w' => ∃ v M5, Sub [(0, kv), (1, cv), (8, v)] L' ∧ Grow w0.heap.size M1 M5 ∧ St w0 w' M5 [] ∧ Bs M5 v (Tick.enc 0 (Tick.authL c t z))) ?_ ?_
  · have hK0 := (hS.known hGC.1).on
    refine CW.held (fun w => On M1 w) mixed ?_
    refine AL.take 0 rfl (by kernel_rfl) (by kernel_rfl) (by kernel_rfl) rfl rfl rfl hK0 (fun w hK => Res.fieldA rfl rfl underlying67 rfl (show SZ Tryz.prog _ 1 from sz9) (by decide)) ?_
    refine AL.take 1 rfl (by kernel_rfl) (by kernel_rfl) (by kernel_rfl) rfl rfl rfl hK0 (fun w hK => Res.load1 (v := Go.E.str c) rfl rfl underlying9 rfl (w := w) (hK.st.cell (PH.cell_of hbox rfl))) ?_
    refine AL.take 4 rfl (by kernel_rfl) (by kernel_rfl) (by kernel_rfl) rfl rfl rfl hK0 (fun w hK => Res.fieldA rfl rfl underlying67 rfl (show SZ Tryz.prog _ 1 from sz3) (by decide)) ?_
    refine AL.take 5 rfl (by kernel_rfl) (by kernel_rfl) (by kernel_rfl) rfl rfl rfl hK0 (fun w hK => Res.load1 (v := .int .i64 t) rfl rfl underlying3 rfl (w := w) (hK.st.cell (PH.cell_of hbox rfl))) ?_
    refine AL.take 8 rfl (by kernel_rfl) (by kernel_rfl) (by kernel_rfl) rfl rfl rfl hK0 (fun w hK => Res.fieldA rfl rfl underlying67 rfl (show SZ Tryz.prog _ 1 from sz3) (by decide)) ?_
    refine AL.take 9 rfl (by kernel_rfl) (by kernel_rfl) (by kernel_rfl) rfl rfl rfl hK0 (fun w hK => Res.load1 (v := .int .i64 z) rfl rfl underlying3 rfl (w := w) (hK.st.cell (PH.cell_of hbox rfl))) ?_
    refine AL.two 2 6 rfl rfl (by kernel_rfl) rfl rfl ?_ ?_
    · refine Stp.s2b (l := c) rfl rfl underlying9 underlying30 underlying5 (by omega) hS rfl rfl ?_
      intro w yqa MX hS hG9 qa
      obtain ⟨qaa, qac, rfl, -, -, -, -⟩ := id qa
      obtain ⟨MC, hMC⟩ : ∃ MC, MC = MX := ⟨_, rfl⟩
      subst hMC
      have hGC := hGC.trans hG9
      try (have qc := qc.mono hG9.1)
      try (have qd := qd.mono hG9.1)
      have hK0 : On M1 w := (hS.known hGC.1).on
      refine ⟨hK0, ?_⟩
      refine AL.take 3 rfl (by kernel_rfl) (by kernel_rfl) (by kernel_rfl) rfl rfl rfl hK0 (fun w hK => Res.build (vals := [(0, .int .i64 1), (1, .slice qaa (c).length qac)]) (cs := #[.int .i64 1, .slice qaa (c).length qac]) rfl rfl (fun _ => by kernel_rfl)) ?_
      refine AL.one 6 rfl (by kernel_rfl) rfl (Stp.callG (args := [_]) rfl rfl rfl cal80 rfl rfl hS (rint_ok (t) _ _ hS.on ht) ?_)
      rintro yqc w MX hS hG9 qc
      obtain ⟨qca, qcc, rfl, -, -, -, -⟩ := id qc
      obtain ⟨MC, hMC⟩ : ∃ MC, MC = MX := ⟨_, rfl⟩
      subst hMC
      have hGC := hGC.trans hG9
      try (have qa := qa.mono hG9.1)
      try (have qd := qd.mono hG9.1)
      have hK0 : On M1 w := (hS.known hGC.1).on
      refine ⟨hK0, ?_⟩
      refine AL.take 7 rfl (by kernel_rfl) (by kernel_rfl) (by kernel_rfl) rfl rfl rfl hK0 (fun w hK => Res.build (vals := [(0, .int .i64 2), (1, .slice qca (Tick.be8 (Tick.bits t)).length qcc)]) (cs := #[.int .i64 2, .slice qca (Tick.be8 (Tick.bits t)).length qcc]) rfl rfl (fun _ => by kernel_rfl)) ?_
      refine AL.one 10 rfl (by kernel_rfl) rfl (Stp.callG (args := [_]) rfl rfl rfl cal80 rfl rfl hS (rint_ok (z) _ _ hS.on hz) ?_)
      rintro yqd w MX hS hG9 qd
      obtain ⟨qda, qdc, rfl, -, -, -, -⟩ := id qd
      obtain ⟨MC, hMC⟩ : ∃ MC, MC = MX := ⟨_, rfl⟩
      subst hMC
      have hGC := hGC.trans hG9
      try (have qa := qa.mono hG9.1)
      try (have qc := qc.mono hG9.1)
      have hK0 : On M1 w := (hS.known hGC.1).on
      refine ⟨hK0, ?_⟩
      refine AL.take 11 rfl (by kernel_rfl) (by kernel_rfl) (by kernel_rfl) rfl rfl rfl hK0 (fun w hK => Res.build (vals := [(0, .int .i64 3), (1, .slice qda (Tick.be8 (Tick.bits z)).length qdc)]) (cs := #[.int .i64 3, .slice qda (Tick.be8 (Tick.bits z)).length qdc]) rfl rfl (fun _ => by kernel_rfl)) ?_
      refine AL.one 12 rfl (by kernel_rfl) rfl (Stp.lit (vals := [(0, .agg #[.int .i64 1, .slice qaa (c).length qac]), (1, .agg #[.int .i64 2, .slice qca (Tick.be8 (Tick.bits t)).length qcc]), (2, .agg #[.int .i64 3, .slice qda (Tick.be8 (Tick.bits z)).length qdc])]) (cs := #[.int .i64 1, .slice qaa (c).length qac, .int .i64 2, .slice qca (Tick.be8 (Tick.bits t)).length qcc, .int .i64 3, .slice qda (Tick.be8 (Tick.bits z)).length qdc]) (e := 113) rfl rfl (fun _ => by kernel_rfl) rfl rfl hS ?_)
      intro b26 w hb26 hS hkp hnw
      have hF := hS.freezeG (i := 0) rfl hb26
      obtain ⟨MC, hG9, hlt, hS⟩ : ∃ M9, Grow w0.heap.size MC M9 ∧ M9 b26 = some (.cells #[.int .i64 1, .slice qaa (c).length qac, .int .i64 2, .slice qca (Tick.be8 (Tick.bits t)).length qcc, .int .i64 3, .slice qda (Tick.be8 (Tick.bits z)).length qdc] 113 (0, 0)) ∧ St w0 w M9 [] := ⟨_, hF.2, PH.add_self _ _ _, hF.1⟩
      have hGC := hGC.trans hG9
      have qa := qa.mono hG9.1
      have qc := qc.mono hG9.1
      have qd := qd.mono hG9.1
      have hft : Ft MC (.slice (some ⟨b26, 0, none⟩) 3 3) (Tick.authL c t z) := ⟨b26, _, rfl, by show 3 ≤ 3; omega, by decide, fun j hj => by
        rcases (by have hj' : j < 3 := hj; omega : j = 0 ∨ j = 1 ∨ j = 2) with rfl | rfl | rfl
        · exact ⟨_, _, _, PH.cell_of hlt rfl, PH.cell_of hlt rfl, qa⟩
        · exact ⟨_, _, _, PH.cell_of hlt rfl, PH.cell_of hlt rfl, qc⟩
        · exact ⟨_, _, _, PH.cell_of hlt rfl, PH.cell_of hlt rfl, qd⟩⟩
      have hK0 : On M1 w := (hS.known hGC.1).on
      refine ⟨hK0, ?_⟩
      refine AL.one 13 rfl (by kernel_rfl) rfl (Stp.callG (args := [_]) rfl rfl rfl cal79 rfl rfl hS (rput_ok _ (Tick.authL c t z) _ _ hS.on hft (by show 3 ≤ 255; decide) (Tick.auth_le hc)) ?_)
      rintro _ w MX hS hG9 ⟨vv, rfl, hvv⟩
      obtain ⟨MC, hMC⟩ : ∃ MC, MC = MX := ⟨_, rfl⟩
      subst hMC
      have hGC := hGC.trans hG9
      have hK0 : On M1 w := (hS.known hGC.1).on
      refine ⟨hK0, ?_⟩
      refine AL.take 14 rfl (by kernel_rfl) (by kernel_rfl) (by kernel_rfl) rfl rfl rfl hK0 (fun w hK => Res.move rfl rfl) ?_
      refine AL.take 15 rfl (by kernel_rfl) (by kernel_rfl) (by kernel_rfl) rfl rfl rfl hK0 (fun w hK => Res.extract (l := [_, _]) rfl rfl rfl) ?_
      refine AL.take 16 rfl (by kernel_rfl) (by kernel_rfl) (by kernel_rfl) rfl rfl rfl hK0 (fun w hK => Res.extract (l := [_, _]) rfl rfl rfl) ?_
      refine AL.take 17 rfl (by kernel_rfl) (by kernel_rfl) (by kernel_rfl) rfl rfl rfl hK0 (fun w hK => Res.assign rfl rfl) ?_
      refine AL.take 18 rfl (by kernel_rfl) (by kernel_rfl) (by kernel_rfl) rfl rfl rfl hK0 (fun w hK => Res.assign rfl rfl) ?_
      refine AL.done (by kernel_rfl) (Thn_n ?_)
      exact ⟨_, _, ⟨rfl, rfl, rfl, trivial⟩, hGC, hS, hvv⟩
    · refine Stp.callG (args := [_]) rfl rfl rfl cal80 rfl rfl hS (rint_ok (t) _ _ hS.on ht) ?_
      rintro yqc w MX hS hG9 qc
      obtain ⟨qca, qcc, rfl, -, -, -, -⟩ := id qc
      obtain ⟨MC, hMC⟩ : ∃ MC, MC = MX := ⟨_, rfl⟩
      subst hMC
      have hGC := hGC.trans hG9
      try (have qa := qa.mono hG9.1)
      try (have qd := qd.mono hG9.1)
      have hK0 : On M1 w := (hS.known hGC.1).on
      refine ⟨hK0, ?_⟩
      refine AL.take 7 rfl (by kernel_rfl) (by kernel_rfl) (by kernel_rfl) rfl rfl rfl hK0 (fun w hK => Res.build (vals := [(0, .int .i64 2), (1, .slice qca (Tick.be8 (Tick.bits t)).length qcc)]) (cs := #[.int .i64 2, .slice qca (Tick.be8 (Tick.bits t)).length qcc]) rfl rfl (fun _ => by kernel_rfl)) ?_
      refine AL.two 2 10 rfl rfl (by kernel_rfl) rfl rfl ?_ ?_
      · refine Stp.s2b (l := c) rfl rfl underlying9 underlying30 underlying5 (by omega) hS rfl rfl ?_
        intro w yqa MX hS hG9 qa
        obtain ⟨qaa, qac, rfl, -, -, -, -⟩ := id qa
        obtain ⟨MC, hMC⟩ : ∃ MC, MC = MX := ⟨_, rfl⟩
        subst hMC
        have hGC := hGC.trans hG9
        try (have qc := qc.mono hG9.1)
        try (have qd := qd.mono hG9.1)
        have hK0 : On M1 w := (hS.known hGC.1).on
        refine ⟨hK0, ?_⟩
        refine AL.take 3 rfl (by kernel_rfl) (by kernel_rfl) (by kernel_rfl) rfl rfl rfl hK0 (fun w hK => Res.build (vals := [(0, .int .i64 1), (1, .slice qaa (c).length qac)]) (cs := #[.int .i64 1, .slice qaa (c).length qac]) rfl rfl (fun _ => by kernel_rfl)) ?_
        refine AL.one 10 rfl (by kernel_rfl) rfl (Stp.callG (args := [_]) rfl rfl rfl cal80 rfl rfl hS (rint_ok (z) _ _ hS.on hz) ?_)
        rintro yqd w MX hS hG9 qd
        obtain ⟨qda, qdc, rfl, -, -, -, -⟩ := id qd
        obtain ⟨MC, hMC⟩ : ∃ MC, MC = MX := ⟨_, rfl⟩
        subst hMC
        have hGC := hGC.trans hG9
        try (have qa := qa.mono hG9.1)
        try (have qc := qc.mono hG9.1)
        have hK0 : On M1 w := (hS.known hGC.1).on
        refine ⟨hK0, ?_⟩
        refine AL.take 11 rfl (by kernel_rfl) (by kernel_rfl) (by kernel_rfl) rfl rfl rfl hK0 (fun w hK => Res.build (vals := [(0, .int .i64 3), (1, .slice qda (Tick.be8 (Tick.bits z)).length qdc)]) (cs := #[.int .i64 3, .slice qda (Tick.be8 (Tick.bits z)).length qdc]) rfl rfl (fun _ => by kernel_rfl)) ?_
        refine AL.one 12 rfl (by kernel_rfl) rfl (Stp.lit (vals := [(0, .agg #[.int .i64 1, .slice qaa (c).length qac]), (1, .agg #[.int .i64 2, .slice qca (Tick.be8 (Tick.bits t)).length qcc]), (2, .agg #[.int .i64 3, .slice qda (Tick.be8 (Tick.bits z)).length qdc])]) (cs := #[.int .i64 1, .slice qaa (c).length qac, .int .i64 2, .slice qca (Tick.be8 (Tick.bits t)).length qcc, .int .i64 3, .slice qda (Tick.be8 (Tick.bits z)).length qdc]) (e := 113) rfl rfl (fun _ => by kernel_rfl) rfl rfl hS ?_)
        intro b26 w hb26 hS hkp hnw
        have hF := hS.freezeG (i := 0) rfl hb26
        obtain ⟨MC, hG9, hlt, hS⟩ : ∃ M9, Grow w0.heap.size MC M9 ∧ M9 b26 = some (.cells #[.int .i64 1, .slice qaa (c).length qac, .int .i64 2, .slice qca (Tick.be8 (Tick.bits t)).length qcc, .int .i64 3, .slice qda (Tick.be8 (Tick.bits z)).length qdc] 113 (0, 0)) ∧ St w0 w M9 [] := ⟨_, hF.2, PH.add_self _ _ _, hF.1⟩
        have hGC := hGC.trans hG9
        have qa := qa.mono hG9.1
        have qc := qc.mono hG9.1
        have qd := qd.mono hG9.1
        have hft : Ft MC (.slice (some ⟨b26, 0, none⟩) 3 3) (Tick.authL c t z) := ⟨b26, _, rfl, by show 3 ≤ 3; omega, by decide, fun j hj => by
          rcases (by have hj' : j < 3 := hj; omega : j = 0 ∨ j = 1 ∨ j = 2) with rfl | rfl | rfl
          · exact ⟨_, _, _, PH.cell_of hlt rfl, PH.cell_of hlt rfl, qa⟩
          · exact ⟨_, _, _, PH.cell_of hlt rfl, PH.cell_of hlt rfl, qc⟩
          · exact ⟨_, _, _, PH.cell_of hlt rfl, PH.cell_of hlt rfl, qd⟩⟩
        have hK0 : On M1 w := (hS.known hGC.1).on
        refine ⟨hK0, ?_⟩
        refine AL.one 13 rfl (by kernel_rfl) rfl (Stp.callG (args := [_]) rfl rfl rfl cal79 rfl rfl hS (rput_ok _ (Tick.authL c t z) _ _ hS.on hft (by show 3 ≤ 255; decide) (Tick.auth_le hc)) ?_)
        rintro _ w MX hS hG9 ⟨vv, rfl, hvv⟩
        obtain ⟨MC, hMC⟩ : ∃ MC, MC = MX := ⟨_, rfl⟩
        subst hMC
        have hGC := hGC.trans hG9
        have hK0 : On M1 w := (hS.known hGC.1).on
        refine ⟨hK0, ?_⟩
        refine AL.take 14 rfl (by kernel_rfl) (by kernel_rfl) (by kernel_rfl) rfl rfl rfl hK0 (fun w hK => Res.move rfl rfl) ?_
        refine AL.take 15 rfl (by kernel_rfl) (by kernel_rfl) (by kernel_rfl) rfl rfl rfl hK0 (fun w hK => Res.extract (l := [_, _]) rfl rfl rfl) ?_
        refine AL.take 16 rfl (by kernel_rfl) (by kernel_rfl) (by kernel_rfl) rfl rfl rfl hK0 (fun w hK => Res.extract (l := [_, _]) rfl rfl rfl) ?_
        refine AL.take 17 rfl (by kernel_rfl) (by kernel_rfl) (by kernel_rfl) rfl rfl rfl hK0 (fun w hK => Res.assign rfl rfl) ?_
        refine AL.take 18 rfl (by kernel_rfl) (by kernel_rfl) (by kernel_rfl) rfl rfl rfl hK0 (fun w hK => Res.assign rfl rfl) ?_
        refine AL.done (by kernel_rfl) (Thn_n ?_)
        exact ⟨_, _, ⟨rfl, rfl, rfl, trivial⟩, hGC, hS, hvv⟩
      · refine Stp.callG (args := [_]) rfl rfl rfl cal80 rfl rfl hS (rint_ok (z) _ _ hS.on hz) ?_
        rintro yqd w MX hS hG9 qd
        obtain ⟨qda, qdc, rfl, -, -, -, -⟩ := id qd
        obtain ⟨MC, hMC⟩ : ∃ MC, MC = MX := ⟨_, rfl⟩
        subst hMC
        have hGC := hGC.trans hG9
        try (have qa := qa.mono hG9.1)
        try (have qc := qc.mono hG9.1)
        have hK0 : On M1 w := (hS.known hGC.1).on
        refine ⟨hK0, ?_⟩
        refine AL.take 11 rfl (by kernel_rfl) (by kernel_rfl) (by kernel_rfl) rfl rfl rfl hK0 (fun w hK => Res.build (vals := [(0, .int .i64 3), (1, .slice qda (Tick.be8 (Tick.bits z)).length qdc)]) (cs := #[.int .i64 3, .slice qda (Tick.be8 (Tick.bits z)).length qdc]) rfl rfl (fun _ => by kernel_rfl)) ?_
        refine AL.one 2 rfl (by kernel_rfl) rfl (Stp.s2b (l := c) rfl rfl underlying9 underlying30 underlying5 (by omega) hS rfl rfl ?_)
        intro w yqa MX hS hG9 qa
        obtain ⟨qaa, qac, rfl, -, -, -, -⟩ := id qa
        obtain ⟨MC, hMC⟩ : ∃ MC, MC = MX := ⟨_, rfl⟩
        subst hMC
        have hGC := hGC.trans hG9
        try (have qc := qc.mono hG9.1)
        try (have qd := qd.mono hG9.1)
        have hK0 : On M1 w := (hS.known hGC.1).on
        refine ⟨hK0, ?_⟩
        refine AL.take 3 rfl (by kernel_rfl) (by kernel_rfl) (by kernel_rfl) rfl rfl rfl hK0 (fun w hK => Res.build (vals := [(0, .int .i64 1), (1, .slice qaa (c).length qac)]) (cs := #[.int .i64 1, .slice qaa (c).length qac]) rfl rfl (fun _ => by kernel_rfl)) ?_
        refine AL.one 12 rfl (by kernel_rfl) rfl (Stp.lit (vals := [(0, .agg #[.int .i64 1, .slice qaa (c).length qac]), (1, .agg #[.int .i64 2, .slice qca (Tick.be8 (Tick.bits t)).length qcc]), (2, .agg #[.int .i64 3, .slice qda (Tick.be8 (Tick.bits z)).length qdc])]) (cs := #[.int .i64 1, .slice qaa (c).length qac, .int .i64 2, .slice qca (Tick.be8 (Tick.bits t)).length qcc, .int .i64 3, .slice qda (Tick.be8 (Tick.bits z)).length qdc]) (e := 113) rfl rfl (fun _ => by kernel_rfl) rfl rfl hS ?_)
        intro b26 w hb26 hS hkp hnw
        have hF := hS.freezeG (i := 0) rfl hb26
        obtain ⟨MC, hG9, hlt, hS⟩ : ∃ M9, Grow w0.heap.size MC M9 ∧ M9 b26 = some (.cells #[.int .i64 1, .slice qaa (c).length qac, .int .i64 2, .slice qca (Tick.be8 (Tick.bits t)).length qcc, .int .i64 3, .slice qda (Tick.be8 (Tick.bits z)).length qdc] 113 (0, 0)) ∧ St w0 w M9 [] := ⟨_, hF.2, PH.add_self _ _ _, hF.1⟩
        have hGC := hGC.trans hG9
        have qa := qa.mono hG9.1
        have qc := qc.mono hG9.1
        have qd := qd.mono hG9.1
        have hft : Ft MC (.slice (some ⟨b26, 0, none⟩) 3 3) (Tick.authL c t z) := ⟨b26, _, rfl, by show 3 ≤ 3; omega, by decide, fun j hj => by
          rcases (by have hj' : j < 3 := hj; omega : j = 0 ∨ j = 1 ∨ j = 2) with rfl | rfl | rfl
          · exact ⟨_, _, _, PH.cell_of hlt rfl, PH.cell_of hlt rfl, qa⟩
          · exact ⟨_, _, _, PH.cell_of hlt rfl, PH.cell_of hlt rfl, qc⟩
          · exact ⟨_, _, _, PH.cell_of hlt rfl, PH.cell_of hlt rfl, qd⟩⟩
        have hK0 : On M1 w := (hS.known hGC.1).on
        refine ⟨hK0, ?_⟩
        refine AL.one 13 rfl (by kernel_rfl) rfl (Stp.callG (args := [_]) rfl rfl rfl cal79 rfl rfl hS (rput_ok _ (Tick.authL c t z) _ _ hS.on hft (by show 3 ≤ 255; decide) (Tick.auth_le hc)) ?_)
        rintro _ w MX hS hG9 ⟨vv, rfl, hvv⟩
        obtain ⟨MC, hMC⟩ : ∃ MC, MC = MX := ⟨_, rfl⟩
        subst hMC
        have hGC := hGC.trans hG9
        have hK0 : On M1 w := (hS.known hGC.1).on
        refine ⟨hK0, ?_⟩
        refine AL.take 14 rfl (by kernel_rfl) (by kernel_rfl) (by kernel_rfl) rfl rfl rfl hK0 (fun w hK => Res.move rfl rfl) ?_
        refine AL.take 15 rfl (by kernel_rfl) (by kernel_rfl) (by kernel_rfl) rfl rfl rfl hK0 (fun w hK => Res.extract (l := [_, _]) rfl rfl rfl) ?_
        refine AL.take 16 rfl (by kernel_rfl) (by kernel_rfl) (by kernel_rfl) rfl rfl rfl hK0 (fun w hK => Res.extract (l := [_, _]) rfl rfl rfl) ?_
        refine AL.take 17 rfl (by kernel_rfl) (by kernel_rfl) (by kernel_rfl) rfl rfl rfl hK0 (fun w hK => Res.assign rfl rfl) ?_
        refine AL.take 18 rfl (by kernel_rfl) (by kernel_rfl) (by kernel_rfl) rfl rfl rfl hK0 (fun w hK => Res.assign rfl rfl) ?_
        refine AL.done (by kernel_rfl) (Thn_n ?_)
        exact ⟨_, _, ⟨rfl, rfl, rfl, trivial⟩, hGC, hS, hvv⟩
  · rintro L2 w2 ⟨v, M5, hsub, hG5, hS, hvv⟩
    refine (Thn_n (CW.sub hsub ?_))
    refine CW.seq ?_
    refine CW.region ?_
    refine WL.step rfl (Stp.res rfl rfl (Res.move rfl rfl) ?_)
    refine WL.step rfl (Stp.res rfl rfl (Res.move rfl rfl) ?_)
    refine WL.step rfl (Stp.res rfl rfl (Res.move rfl rfl) ?_)
    refine WL.step rfl (Stp.callG (args := [_, _, _, _]) rfl rfl rfl cal90 rfl rfl hS (qseal_all _ _ _ key conf (Tick.enc 0 (Tick.authL c t z)) 11 _ _ hS.on (hkey.mono (hG1.trans hG5).1) (hconf.mono (hG1.trans hG5).1) hvv) ?_)
    rintro _ w M6 hS hG6 ⟨sv, rfl, hsv⟩
    refine WL.step rfl (Stp.res rfl rfl (Res.extract (l := [_, _]) rfl rfl rfl) ?_)
    refine WL.step rfl (Stp.res rfl rfl (Res.extract (l := [_, _]) rfl rfl rfl) ?_)
    refine WL.step rfl (Stp.res rfl rfl (Res.assign rfl rfl) ?_)
    refine WL.step rfl (Stp.res rfl rfl (Res.assign rfl rfl) ?_)
    refine WL.nil (Thn_n ?_)
    refine CW.ret ?_
    have hGA := (hG1.trans hG5).trans hG6
    exact fq_tmp2 rfl rfl rfl ⟨M6, hS, hGA.1, hGA.2, _, rfl, hsv⟩
theorem rseal_all (kv cv : Value) (key conf c : List UInt8) (t z : Int) (w0 : World) (M : PH) (hM : On M w0) (hkey : Bs M kv key) (hconf : Bs M cv conf) (ht : Tick.inI t) (hz : Tick.inI z) : Ok Tryz.prog 45 #[kv, cv, .agg #[Go.E.str c, .int .i64 t, .int .i64 z]] w0 M (fun M' r => ∃ v, r = .tuple #[v, .int .i64 (Tick.sealA key conf c t z).2] ∧ Bs M' v (Tick.sealA key conf c t z).1) := by
  by_cases hok : Tick.okAuth c t
  · rw [Tick.sealA, if_pos hok]
    exact rseal_yes kv cv key conf c t z w0 M hM hkey hconf ht hz hok
  · rw [Tick.sealA, if_neg hok]
    exact (rseal_no kv cv key conf c t z w0 M hM hok).imp fun M' r _ h => ⟨_, h, Bs.nil _⟩
end Go.Proofs.YtcmgimicdcchlaaGreatDoor
