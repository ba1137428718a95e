/- Lemmas on the way to the statement; no condition of its own. -/
import Derived.Test.YtcmgimicdcchlaaGreatDoorQT
set_option linter.unusedVariables false
set_option maxRecDepth 20000
namespace Go.Proofs.YtcmgimicdcchlaaGreatDoor
open Go.Proofs.Tryz
open Go Go.E
set_option maxHeartbeats 16000000 in
theorem tbytes_ok (c s : List UInt8) (kv : Value) (f u e fl : Nat) (w0 : World) (M : PH) (hM : On M w0) (hc : Tick.okName c) (hs : Tick.okName s) (hf : f ≤ 1099511627776) (hu : u ≤ 1099511627776) (he : e ≤ 1099511627776) (hfu : f < u) (hfl : fl ≤ 15) : Ok Tryz.prog 33 #[.agg #[Go.E.str c, Go.E.str s, kv, .int .i64 (f : Int), .int .i64 (u : Int), .int .i64 (e : Int), .int .i64 (fl : Int)]] w0 M (fun M' r => ∃ v, r = .tuple #[v, .int .i64 0] ∧ Bs M' v (Tick.enc 0 [c, s, Tick.be8 f, Tick.be8 u, Tick.be8 e, Tick.be8 fl])) := by
  have hS := hM.st
  refine enterB (l := [.agg #[Go.E.str c, Go.E.str s, kv, .int .i64 (f : Int), .int .i64 (u : Int), .int .i64 (e : Int), .int .i64 (fl : Int)]]) 31 func33 rfl ntmps33 rfl ?_
  refine CW.seq ?_
  refine CW.region ?_
  refine WL.step rfl (Stp.boxA rfl rfl rfl rfl hS ?_)
  intro b1 w hb1 hS hkp hnw
  refine WL.step rfl (Stp.res rfl rfl (Res.assign rfl rfl) ?_)
  refine WL.step rfl (Stp.res rfl rfl (Res.assign rfl rfl) ?_)
  refine WL.nil (Thn_n ?_)
  refine CW.seq ?_
  refine CW.seq ?_
  have hF := hS.freezeG (i := 0) rfl hb1
  obtain ⟨M1, hG1, hbox, hS⟩ : ∃ M1, Grow w0.heap.size M M1 ∧ M1 b1 = some (.cells #[Go.E.str c, Go.E.str s, kv, .int .i64 (f : Int), .int .i64 (u : Int), .int .i64 (e : Int), .int .i64 (fl : Int)] 57 (0, 0)) ∧ St w0 w M1 [] := ⟨_, hF.2, PH.add_self _ _ _, hF.1⟩
  refine CW.region ?_
  refine WL.step rfl (Stp.res rfl rfl (Res.loadAll (cs := #[Go.E.str c, Go.E.str s, kv, .int .i64 (f : Int), .int .i64 (u : Int), .int .i64 (e : Int), .int .i64 (fl : Int)]) rfl rfl underlying57 rfl (sz57) (hS.on _ _ hbox)) ?_)
  refine WL.step rfl (Stp.callG (args := [_]) rfl rfl rfl cal74 rfl rfl hS (tlook_ok c s kv f u e fl _ _ hS.on hc hs hf hu he hfu hfl) ?_)
  rintro _ w _ hS _ ⟨rfl, rfl⟩
  refine WL.step rfl (Stp.res rfl rfl (Res.assign rfl rfl) ?_)
  refine WL.nil (Thn_n ?_)
  refine CW.seq ?_
  refine CW.region ?_
  refine WL.step rfl (Stp.res rfl rfl (Res.move rfl rfl) ?_)
  refine WL.step rfl (Stp.res rfl rfl (Res.neqNN rfl rfl underlying86) ?_)
  refine WL.nil (Thn_n ?_)
  refine CW.condF rfl ?_
  refine CW.skip (Thn_n ?_)
  refine CW.seq ?_
  have hcl := hc.2
  have hsl := hs.2
  obtain ⟨MC, hMC, hGC⟩ : ∃ MC, MC = M1 ∧ Grow w0.heap.size M1 MC := ⟨M1, rfl, Grow.refl _ _⟩
  rw [← hMC] at hS
  clear hMC
  have hS := hS.drew
  refine CW.post (fun L' w' => ∃ v M5, Sub [(2, v), (3, .int .i64 0)] L' ∧ Grow w0.heap.size M1 M5 ∧ St w0 w' M5 [] ∧ Bs M5 v (Tick.enc 0 [c, s, Tick.be8 f, Tick.be8 u, Tick.be8 e, Tick.be8 fl])) ?_ ?_
  · have hK0 := (hS.known hGC.1).on
    refine CW.held (fun w => On M1 w) mixed ?_
    refine AL.take 0 rfl (by kernel_rfl) (by kernel_rfl) (by kernel_rfl) rfl rfl rfl hK0 (fun w hK => Res.fieldA rfl rfl underlying57 rfl (show SZ Tryz.prog _ 1 from sz9) (by decide)) ?_
    refine AL.take 1 rfl (by kernel_rfl) (by kernel_rfl) (by kernel_rfl) rfl rfl rfl hK0 (fun w hK => Res.load1 (v := Go.E.str c) rfl rfl underlying9 rfl (w := w) (hK.st.cell (PH.cell_of hbox rfl))) ?_
    refine AL.take 3 rfl (by kernel_rfl) (by kernel_rfl) (by kernel_rfl) rfl rfl rfl hK0 (fun w hK => Res.fieldA rfl rfl underlying57 rfl (show SZ Tryz.prog _ 1 from sz9) (by decide)) ?_
    refine AL.take 4 rfl (by kernel_rfl) (by kernel_rfl) (by kernel_rfl) rfl rfl rfl hK0 (fun w hK => Res.load1 (v := Go.E.str s) rfl rfl underlying9 rfl (w := w) (hK.st.cell (PH.cell_of hbox rfl))) ?_
    refine AL.take 6 rfl (by kernel_rfl) (by kernel_rfl) (by kernel_rfl) rfl rfl rfl hK0 (fun w hK => Res.fieldA rfl rfl underlying57 rfl (show SZ Tryz.prog _ 1 from sz3) (by decide)) ?_
    refine AL.take 7 rfl (by kernel_rfl) (by kernel_rfl) (by kernel_rfl) rfl rfl rfl hK0 (fun w hK => Res.load1 (v := .int .i64 (f : Int)) rfl rfl underlying3 rfl (w := w) (hK.st.cell (PH.cell_of hbox rfl))) ?_
    refine AL.take 9 rfl (by kernel_rfl) (by kernel_rfl) (by kernel_rfl) rfl rfl rfl hK0 (fun w hK => Res.fieldA rfl rfl underlying57 rfl (show SZ Tryz.prog _ 1 from sz3) (by decide)) ?_
    refine AL.take 10 rfl (by kernel_rfl) (by kernel_rfl) (by kernel_rfl) rfl rfl rfl hK0 (fun w hK => Res.load1 (v := .int .i64 (u : Int)) rfl rfl underlying3 rfl (w := w) (hK.st.cell (PH.cell_of hbox rfl))) ?_
    refine AL.take 12 rfl (by kernel_rfl) (by kernel_rfl) (by kernel_rfl) rfl rfl rfl hK0 (fun w hK => Res.fieldA rfl rfl underlying57 rfl (show SZ Tryz.prog _ 1 from sz3) (by decide)) ?_
    refine AL.take 13 rfl (by kernel_rfl) (by kernel_rfl) (by kernel_rfl) rfl rfl rfl hK0 (fun w hK => Res.load1 (v := .int .i64 (e : Int)) rfl rfl underlying3 rfl (w := w) (hK.st.cell (PH.cell_of hbox rfl))) ?_
    refine AL.take 15 rfl (by kernel_rfl) (by kernel_rfl) (by kernel_rfl) rfl rfl rfl hK0 (fun w hK => Res.fieldA rfl rfl underlying57 rfl (show SZ Tryz.prog _ 1 from sz3) (by decide)) ?_
    refine AL.take 16 rfl (by kernel_rfl) (by kernel_rfl) (by kernel_rfl) rfl rfl rfl hK0 (fun w hK => Res.load1 (v := .int .i64 (fl : Int)) rfl rfl underlying3 rfl (w := w) (hK.st.cell (PH.cell_of hbox rfl))) ?_
    refine AL.three 2 5 8 rfl rfl rfl (by kernel_rfl) (Wan.none rfl) (Wan.none rfl) (Wan.none rfl) ?_ ?_ ?_
    · refine Stp.s2b (l := c) rfl rfl underlying9 underlying30 underlying5 (by omega) hS rfl rfl ?_
      intro w yqa MX hS hG9 qa
      obtain ⟨qaa, qac, rfl, -, -, -, -⟩ := id qa
      obtain ⟨MC, hMC⟩ : ∃ MC, MC = MX := ⟨_, rfl⟩
      subst hMC
      have hGC := hGC.trans hG9
      try (have qb := qb.mono hG9.1)
      try (have qc := qc.mono hG9.1)
      try (have qd := qd.mono hG9.1)
      try (have qe := qe.mono hG9.1)
      try (have qf := qf.mono hG9.1)
      have hK0 : On M1 w := (hS.known hGC.1).on
      refine ⟨hK0, ?_⟩
      refine AL.two 5 8 rfl rfl (by kernel_rfl) rfl rfl ?_ ?_
      · refine Stp.s2b (l := s) rfl rfl underlying9 underlying30 underlying5 (by omega) hS rfl rfl ?_
        intro w yqb MX hS hG9 qb
        obtain ⟨qba, qbc, rfl, -, -, -, -⟩ := id qb
        obtain ⟨MC, hMC⟩ : ∃ MC, MC = MX := ⟨_, rfl⟩
        subst hMC
        have hGC := hGC.trans hG9
        try (have qa := qa.mono hG9.1)
        try (have qc := qc.mono hG9.1)
        try (have qd := qd.mono hG9.1)
        try (have qe := qe.mono hG9.1)
        try (have qf := qf.mono hG9.1)
        have hK0 : On M1 w := (hS.known hGC.1).on
        refine ⟨hK0, ?_⟩
        refine AL.one 8 rfl (by kernel_rfl) rfl (Stp.callG (args := [_]) rfl rfl rfl cal77 rfl rfl hS (int8_ok f _ _ hS.on (by omega)) ?_)
        rintro yqc w MX hS hG9 qc
        obtain ⟨qca, qcc, rfl, -, -, -, -⟩ := id qc
        obtain ⟨MC, hMC⟩ : ∃ MC, MC = MX := ⟨_, rfl⟩
        subst hMC
        have hGC := hGC.trans hG9
        try (have qa := qa.mono hG9.1)
        try (have qb := qb.mono hG9.1)
        try (have qd := qd.mono hG9.1)
        try (have qe := qe.mono hG9.1)
        try (have qf := qf.mono hG9.1)
        have hK0 : On M1 w := (hS.known hGC.1).on
        refine ⟨hK0, ?_⟩
        refine AL.one 11 rfl (by kernel_rfl) rfl (Stp.callG (args := [_]) rfl rfl rfl cal77 rfl rfl hS (int8_ok u _ _ hS.on (by omega)) ?_)
        rintro yqd w MX hS hG9 qd
        obtain ⟨qda, qdc, rfl, -, -, -, -⟩ := id qd
        obtain ⟨MC, hMC⟩ : ∃ MC, MC = MX := ⟨_, rfl⟩
        subst hMC
        have hGC := hGC.trans hG9
        try (have qa := qa.mono hG9.1)
        try (have qb := qb.mono hG9.1)
        try (have qc := qc.mono hG9.1)
        try (have qe := qe.mono hG9.1)
        try (have qf := qf.mono hG9.1)
        have hK0 : On M1 w := (hS.known hGC.1).on
        refine ⟨hK0, ?_⟩
        refine AL.one 14 rfl (by kernel_rfl) rfl (Stp.callG (args := [_]) rfl rfl rfl cal77 rfl rfl hS (int8_ok e _ _ hS.on (by omega)) ?_)
        rintro yqe w MX hS hG9 qe
        obtain ⟨qea, qec, rfl, -, -, -, -⟩ := id qe
        obtain ⟨MC, hMC⟩ : ∃ MC, MC = MX := ⟨_, rfl⟩
        subst hMC
        have hGC := hGC.trans hG9
        try (have qa := qa.mono hG9.1)
        try (have qb := qb.mono hG9.1)
        try (have qc := qc.mono hG9.1)
        try (have qd := qd.mono hG9.1)
        try (have qf := qf.mono hG9.1)
        have hK0 : On M1 w := (hS.known hGC.1).on
        refine ⟨hK0, ?_⟩
        refine AL.one 17 rfl (by kernel_rfl) rfl (Stp.callG (args := [_]) rfl rfl rfl cal77 rfl rfl hS (int8_ok fl _ _ hS.on (by omega)) ?_)
        rintro yqf w MX hS hG9 qf
        obtain ⟨qfa, qfc, rfl, -, -, -, -⟩ := id qf
        obtain ⟨MC, hMC⟩ : ∃ MC, MC = MX := ⟨_, rfl⟩
        subst hMC
        have hGC := hGC.trans hG9
        try (have qa := qa.mono hG9.1)
        try (have qb := qb.mono hG9.1)
        try (have qc := qc.mono hG9.1)
        try (have qd := qd.mono hG9.1)
        try (have qe := qe.mono hG9.1)
        have hK0 : On M1 w := (hS.known hGC.1).on
        refine ⟨hK0, ?_⟩
        refine AL.one 18 rfl (by kernel_rfl) rfl (Stp.lit (vals := [(0, .slice qaa (c).length qac), (1, .slice qba (s).length qbc), (2, .slice qca (Tick.be8 f).length qcc), (3, .slice qda (Tick.be8 u).length qdc), (4, .slice qea (Tick.be8 e).length qec), (5, .slice qfa (Tick.be8 fl).length qfc)]) (cs := #[.slice qaa (c).length qac, .slice qba (s).length qbc, .slice qca (Tick.be8 f).length qcc, .slice qda (Tick.be8 u).length qdc, .slice qea (Tick.be8 e).length qec, .slice qfa (Tick.be8 fl).length qfc]) (e := 30) rfl rfl (fun _ => by kernel_rfl) rfl rfl hS ?_)
        intro b29 w hb29 hS hkp hnw
        have hF := hS.freezeG (i := 0) rfl hb29
        obtain ⟨MC, hG9, hlt, hS⟩ : ∃ M9, Grow w0.heap.size MC M9 ∧ M9 b29 = some (.cells #[.slice qaa (c).length qac, .slice qba (s).length qbc, .slice qca (Tick.be8 f).length qcc, .slice qda (Tick.be8 u).length qdc, .slice qea (Tick.be8 e).length qec, .slice qfa (Tick.be8 fl).length qfc] 30 (0, 0)) ∧ St w0 w M9 [] := ⟨_, hF.2, PH.add_self _ _ _, hF.1⟩
        have hGC := hGC.trans hG9
        have qa := qa.mono hG9.1
        have qb := qb.mono hG9.1
        have qc := qc.mono hG9.1
        have qd := qd.mono hG9.1
        have qe := qe.mono hG9.1
        have qf := qf.mono hG9.1
        have hK0 : On M1 w := (hS.known hGC.1).on
        refine ⟨hK0, ?_⟩
        refine AL.one 19 rfl (by kernel_rfl) rfl (Stp.callG (args := [_]) rfl rfl rfl cal76 rfl rfl hS (value_ok b29 0 6 [.slice qaa (c).length qac, .slice qba (s).length qbc, .slice qca (Tick.be8 f).length qcc, .slice qda (Tick.be8 u).length qdc, .slice qea (Tick.be8 e).length qec, .slice qfa (Tick.be8 fl).length qfc] [c, s, Tick.be8 f, Tick.be8 u, Tick.be8 e, Tick.be8 fl] _ _ hS.on (fun j x hj => by rw [Nat.zero_add]; exact PH.cell_of hlt (by rw [List.getElem?_toArray]; exact hj)) ⟨rfl, fun j hj => by
          rcases (by have hj' : j < 6 := hj; omega : j = 0 ∨ j = 1 ∨ j = 2 ∨ j = 3 ∨ j = 4 ∨ j = 5) with rfl | rfl | rfl | rfl | rfl | rfl
          · exact ⟨_, rfl, qa⟩
          · exact ⟨_, rfl, qb⟩
          · exact ⟨_, rfl, qc⟩
          · exact ⟨_, rfl, qd⟩
          · exact ⟨_, rfl, qe⟩
          · exact ⟨_, rfl, qf⟩⟩ (by show 0 < 6; decide) (by show 6 ≤ 255; decide) (by rw [Tick.enc_length]; simp only [List.map_cons, List.map_nil, List.sum_cons, List.sum_nil, Tick.be8_length]; have := hc.2; have := hs.2; omega)) ?_)
        rintro vv w MX hS hG9 hvv
        obtain ⟨MC, hMC⟩ : ∃ MC, MC = MX := ⟨_, rfl⟩
        subst hMC
        have hGC := hGC.trans hG9
        have hK0 : On M1 w := (hS.known hGC.1).on
        refine ⟨hK0, ?_⟩
        refine AL.take 20 rfl (by kernel_rfl) (by kernel_rfl) (by kernel_rfl) rfl rfl rfl hK0 (fun w hK => Res.assign rfl rfl) ?_
        refine AL.take 21 rfl (by kernel_rfl) (by kernel_rfl) (by kernel_rfl) rfl rfl rfl hK0 (fun w hK => Res.assign rfl rfl) ?_
        refine AL.done (by kernel_rfl) (Thn_n ?_)
        exact ⟨_, _, ⟨rfl, rfl, trivial⟩, hGC, hS, hvv⟩
      · refine Stp.callG (args := [_]) rfl rfl rfl cal77 rfl rfl hS (int8_ok f _ _ hS.on (by omega)) ?_
        rintro yqc w MX hS hG9 qc
        obtain ⟨qca, qcc, rfl, -, -, -, -⟩ := id qc
        obtain ⟨MC, hMC⟩ : ∃ MC, MC = MX := ⟨_, rfl⟩
        subst hMC
        have hGC := hGC.trans hG9
        try (have qa := qa.mono hG9.1)
        try (have qb := qb.mono hG9.1)
        try (have qd := qd.mono hG9.1)
        try (have qe := qe.mono hG9.1)
        try (have qf := qf.mono hG9.1)
        have hK0 : On M1 w := (hS.known hGC.1).on
        refine ⟨hK0, ?_⟩
        refine AL.two 5 11 rfl rfl (by kernel_rfl) rfl rfl ?_ ?_
        · refine Stp.s2b (l := s) rfl rfl underlying9 underlying30 underlying5 (by omega) hS rfl rfl ?_
          intro w yqb MX hS hG9 qb
          obtain ⟨qba, qbc, rfl, -, -, -, -⟩ := id qb
          obtain ⟨MC, hMC⟩ : ∃ MC, MC = MX := ⟨_, rfl⟩
          subst hMC
          have hGC := hGC.trans hG9
          try (have qa := qa.mono hG9.1)
          try (have qc := qc.mono hG9.1)
          try (have qd := qd.mono hG9.1)
          try (have qe := qe.mono hG9.1)
          try (have qf := qf.mono hG9.1)
          have hK0 : On M1 w := (hS.known hGC.1).on
          refine ⟨hK0, ?_⟩
          refine AL.one 11 rfl (by kernel_rfl) rfl (Stp.callG (args := [_]) rfl rfl rfl cal77 rfl rfl hS (int8_ok u _ _ hS.on (by omega)) ?_)
          rintro yqd w MX hS hG9 qd
          obtain ⟨qda, qdc, rfl, -, -, -, -⟩ := id qd
          obtain ⟨MC, hMC⟩ : ∃ MC, MC = MX := ⟨_, rfl⟩
          subst hMC
          have hGC := hGC.trans hG9
          try (have qa := qa.mono hG9.1)
          try (have qb := qb.mono hG9.1)
          try (have qc := qc.mono hG9.1)
          try (have qe := qe.mono hG9.1)
          try (have qf := qf.mono hG9.1)
          have hK0 : On M1 w := (hS.known hGC.1).on
          refine ⟨hK0, ?_⟩
          refine AL.one 14 rfl (by kernel_rfl) rfl (Stp.callG (args := [_]) rfl rfl rfl cal77 rfl rfl hS (int8_ok e _ _ hS.on (by omega)) ?_)
          rintro yqe w MX hS hG9 qe
          obtain ⟨qea, qec, rfl, -, -, -, -⟩ := id qe
          obtain ⟨MC, hMC⟩ : ∃ MC, MC = MX := ⟨_, rfl⟩
          subst hMC
          have hGC := hGC.trans hG9
          try (have qa := qa.mono hG9.1)
          try (have qb := qb.mono hG9.1)
          try (have qc := qc.mono hG9.1)
          try (have qd := qd.mono hG9.1)
          try (have qf := qf.mono hG9.1)
          have hK0 : On M1 w := (hS.known hGC.1).on
          refine ⟨hK0, ?_⟩
          refine AL.one 17 rfl (by kernel_rfl) rfl (Stp.callG (args := [_]) rfl rfl rfl cal77 rfl rfl hS (int8_ok fl _ _ hS.on (by omega)) ?_)
          rintro yqf w MX hS hG9 qf
          obtain ⟨qfa, qfc, rfl, -, -, -, -⟩ := id qf
          obtain ⟨MC, hMC⟩ : ∃ MC, MC = MX := ⟨_, rfl⟩
          subst hMC
          have hGC := hGC.trans hG9
          try (have qa := qa.mono hG9.1)
          try (have qb := qb.mono hG9.1)
          try (have qc := qc.mono hG9.1)
          try (have qd := qd.mono hG9.1)
          try (have qe := qe.mono hG9.1)
          have hK0 : On M1 w := (hS.known hGC.1).on
          refine ⟨hK0, ?_⟩
          refine AL.one 18 rfl (by kernel_rfl) rfl (Stp.lit (vals := [(0, .slice qaa (c).length qac), (1, .slice qba (s).length qbc), (2, .slice qca (Tick.be8 f).length qcc), (3, .slice qda (Tick.be8 u).length qdc), (4, .slice qea (Tick.be8 e).length qec), (5, .slice qfa (Tick.be8 fl).length qfc)]) (cs := #[.slice qaa (c).length qac, .slice qba (s).length qbc, .slice qca (Tick.be8 f).length qcc, .slice qda (Tick.be8 u).length qdc, .slice qea (Tick.be8 e).length qec, .slice qfa (Tick.be8 fl).length qfc]) (e := 30) rfl rfl (fun _ => by kernel_rfl) rfl rfl hS ?_)
          intro b29 w hb29 hS hkp hnw
          have hF := hS.freezeG (i := 0) rfl hb29
          obtain ⟨MC, hG9, hlt, hS⟩ : ∃ M9, Grow w0.heap.size MC M9 ∧ M9 b29 = some (.cells #[.slice qaa (c).length qac, .slice qba (s).length qbc, .slice qca (Tick.be8 f).length qcc, .slice qda (Tick.be8 u).length qdc, .slice qea (Tick.be8 e).length qec, .slice qfa (Tick.be8 fl).length qfc] 30 (0, 0)) ∧ St w0 w M9 [] := ⟨_, hF.2, PH.add_self _ _ _, hF.1⟩
          have hGC := hGC.trans hG9
          have qa := qa.mono hG9.1
          have qb := qb.mono hG9.1
          have qc := qc.mono hG9.1
          have qd := qd.mono hG9.1
          have qe := qe.mono hG9.1
          have qf := qf.mono hG9.1
          have hK0 : On M1 w := (hS.known hGC.1).on
          refine ⟨hK0, ?_⟩
          refine AL.one 19 rfl (by kernel_rfl) rfl (Stp.callG (args := [_]) rfl rfl rfl cal76 rfl rfl hS (value_ok b29 0 6 [.slice qaa (c).length qac, .slice qba (s).length qbc, .slice qca (Tick.be8 f).length qcc, .slice qda (Tick.be8 u).length qdc, .slice qea (Tick.be8 e).length qec, .slice qfa (Tick.be8 fl).length qfc] [c, s, Tick.be8 f, Tick.be8 u, Tick.be8 e, Tick.be8 fl] _ _ hS.on (fun j x hj => by rw [Nat.zero_add]; exact PH.cell_of hlt (by rw [List.getElem?_toArray]; exact hj)) ⟨rfl, fun j hj => by
            rcases (by have hj' : j < 6 := hj; omega : j = 0 ∨ j = 1 ∨ j = 2 ∨ j = 3 ∨ j = 4 ∨ j = 5) with rfl | rfl | rfl | rfl | rfl | rfl
            · exact ⟨_, rfl, qa⟩
            · exact ⟨_, rfl, qb⟩
            · exact ⟨_, rfl, qc⟩
            · exact ⟨_, rfl, qd⟩
            · exact ⟨_, rfl, qe⟩
            · exact ⟨_, rfl, qf⟩⟩ (by show 0 < 6; decide) (by show 6 ≤ 255; decide) (by rw [Tick.enc_length]; simp only [List.map_cons, List.map_nil, List.sum_cons, List.sum_nil, Tick.be8_length]; have := hc.2; have := hs.2; omega)) ?_)
          rintro vv w MX hS hG9 hvv
          obtain ⟨MC, hMC⟩ : ∃ MC, MC = MX := ⟨_, rfl⟩
          subst hMC
          have hGC := hGC.trans hG9
          have hK0 : On M1 w := (hS.known hGC.1).on
          refine ⟨hK0, ?_⟩
          refine AL.take 20 rfl (by kernel_rfl) (by kernel_rfl) (by kernel_rfl) rfl rfl rfl hK0 (fun w hK => Res.assign rfl rfl) ?_
          refine AL.take 21 rfl (by kernel_rfl) (by kernel_rfl) (by kernel_rfl) rfl rfl rfl hK0 (fun w hK => Res.assign rfl rfl) ?_
          refine AL.done (by kernel_rfl) (Thn_n ?_)
          exact ⟨_, _, ⟨rfl, rfl, trivial⟩, hGC, hS, hvv⟩
        · refine Stp.callG (args := [_]) rfl rfl rfl cal77 rfl rfl hS (int8_ok u _ _ hS.on (by omega)) ?_
          rintro yqd w MX hS hG9 qd
          obtain ⟨qda, qdc, rfl, -, -, -, -⟩ := id qd
          obtain ⟨MC, hMC⟩ : ∃ MC, MC = MX := ⟨_, rfl⟩
          subst hMC
          have hGC := hGC.trans hG9
          try (have qa := qa.mono hG9.1)
          try (have qb := qb.mono hG9.1)
          try (have qc := qc.mono hG9.1)
          try (have qe := qe.mono hG9.1)
          try (have qf := qf.mono hG9.1)
          have hK0 : On M1 w := (hS.known hGC.1).on
          refine ⟨hK0, ?_⟩
          refine AL.two 5 14 rfl rfl (by kernel_rfl) rfl rfl ?_ ?_
          · refine Stp.s2b (l := s) rfl rfl underlying9 underlying30 underlying5 (by omega) hS rfl rfl ?_
            intro w yqb MX hS hG9 qb
            obtain ⟨qba, qbc, rfl, -, -, -, -⟩ := id qb
            obtain ⟨MC, hMC⟩ : ∃ MC, MC = MX := ⟨_, rfl⟩
            subst hMC
            have hGC := hGC.trans hG9
            try (have qa := qa.mono hG9.1)
            try (have qc := qc.mono hG9.1)
            try (have qd := qd.mono hG9.1)
            try (have qe := qe.mono hG9.1)
            try (have qf := qf.mono hG9.1)
            have hK0 : On M1 w := (hS.known hGC.1).on
            refine ⟨hK0, ?_⟩
            refine AL.one 14 rfl (by kernel_rfl) rfl (Stp.callG (args := [_]) rfl rfl rfl cal77 rfl rfl hS (int8_ok e _ _ hS.on (by omega)) ?_)
            rintro yqe w MX hS hG9 qe
            obtain ⟨qea, qec, rfl, -, -, -, -⟩ := id qe
            obtain ⟨MC, hMC⟩ : ∃ MC, MC = MX := ⟨_, rfl⟩
            subst hMC
            have hGC := hGC.trans hG9
            try (have qa := qa.mono hG9.1)
            try (have qb := qb.mono hG9.1)
            try (have qc := qc.mono hG9.1)
            try (have qd := qd.mono hG9.1)
            try (have qf := qf.mono hG9.1)
            have hK0 : On M1 w := (hS.known hGC.1).on
            refine ⟨hK0, ?_⟩
            refine AL.one 17 rfl (by kernel_rfl) rfl (Stp.callG (args := [_]) rfl rfl rfl cal77 rfl rfl hS (int8_ok fl _ _ hS.on (by omega)) ?_)
            rintro yqf w MX hS hG9 qf
            obtain ⟨qfa, qfc, rfl, -, -, -, -⟩ := id qf
            obtain ⟨MC, hMC⟩ : ∃ MC, MC = MX := ⟨_, rfl⟩
            subst hMC
            have hGC := hGC.trans hG9
            try (have qa := qa.mono hG9.1)
            try (have qb := qb.mono hG9.1)
            try (have qc := qc.mono hG9.1)
            try (have qd := qd.mono hG9.1)
            try (have qe := qe.mono hG9.1)
            have hK0 : On M1 w := (hS.known hGC.1).on
            refine ⟨hK0, ?_⟩
            refine AL.one 18 rfl (by kernel_rfl) rfl (Stp.lit (vals := [(0, .slice qaa (c).length qac), (1, .slice qba (s).length qbc), (2, .slice qca (Tick.be8 f).length qcc), (3, .slice qda (Tick.be8 u).length qdc), (4, .slice qea (Tick.be8 e).length qec), (5, .slice qfa (Tick.be8 fl).length qfc)]) (cs := #[.slice qaa (c).length qac, .slice qba (s).length qbc, .slice qca (Tick.be8 f).length qcc, .slice qda (Tick.be8 u).length qdc, .slice qea (Tick.be8 e).length qec, .slice qfa (Tick.be8 fl).length qfc]) (e := 30) rfl rfl (fun _ => by kernel_rfl) rfl rfl hS ?_)
            intro b29 w hb29 hS hkp hnw
            have hF := hS.freezeG (i := 0) rfl hb29
            obtain ⟨MC, hG9, hlt, hS⟩ : ∃ M9, Grow w0.heap.size MC M9 ∧ M9 b29 = some (.cells #[.slice qaa (c).length qac, .slice qba (s).length qbc, .slice qca (Tick.be8 f).length qcc, .slice qda (Tick.be8 u).length qdc, .slice qea (Tick.be8 e).length qec, .slice qfa (Tick.be8 fl).length qfc] 30 (0, 0)) ∧ St w0 w M9 [] := ⟨_, hF.2, PH.add_self _ _ _, hF.1⟩
            have hGC := hGC.trans hG9
            have qa := qa.mono hG9.1
            have qb := qb.mono hG9.1
            have qc := qc.mono hG9.1
            have qd := qd.mono hG9.1
            have qe := qe.mono hG9.1
            have qf := qf.mono hG9.1
            have hK0 : On M1 w := (hS.known hGC.1).on
            refine ⟨hK0, ?_⟩
            refine AL.one 19 rfl (by kernel_rfl) rfl (Stp.callG (args := [_]) rfl rfl rfl cal76 rfl rfl hS (value_ok b29 0 6 [.slice qaa (c).length qac, .slice qba (s).length qbc, .slice qca (Tick.be8 f).length qcc, .slice qda (Tick.be8 u).length qdc, .slice qea (Tick.be8 e).length qec, .slice qfa (Tick.be8 fl).length qfc] [c, s, Tick.be8 f, Tick.be8 u, Tick.be8 e, Tick.be8 fl] _ _ hS.on (fun j x hj => by rw [Nat.zero_add]; exact PH.cell_of hlt (by rw [List.getElem?_toArray]; exact hj)) ⟨rfl, fun j hj => by
              rcases (by have hj' : j < 6 := hj; omega : j = 0 ∨ j = 1 ∨ j = 2 ∨ j = 3 ∨ j = 4 ∨ j = 5) with rfl | rfl | rfl | rfl | rfl | rfl
              · exact ⟨_, rfl, qa⟩
              · exact ⟨_, rfl, qb⟩
              · exact ⟨_, rfl, qc⟩
              · exact ⟨_, rfl, qd⟩
              · exact ⟨_, rfl, qe⟩
              · exact ⟨_, rfl, qf⟩⟩ (by show 0 < 6; decide) (by show 6 ≤ 255; decide) (by rw [Tick.enc_length]; simp only [List.map_cons, List.map_nil, List.sum_cons, List.sum_nil, Tick.be8_length]; have := hc.2; have := hs.2; omega)) ?_)
            rintro vv w MX hS hG9 hvv
            obtain ⟨MC, hMC⟩ : ∃ MC, MC = MX := ⟨_, rfl⟩
            subst hMC
            have hGC := hGC.trans hG9
            have hK0 : On M1 w := (hS.known hGC.1).on
            refine ⟨hK0, ?_⟩
            refine AL.take 20 rfl (by kernel_rfl) (by kernel_rfl) (by kernel_rfl) rfl rfl rfl hK0 (fun w hK => Res.assign rfl rfl) ?_
            refine AL.take 21 rfl (by kernel_rfl) (by kernel_rfl) (by kernel_rfl) rfl rfl rfl hK0 (fun w hK => Res.assign rfl rfl) ?_
            refine AL.done (by kernel_rfl) (Thn_n ?_)
            exact ⟨_, _, ⟨rfl, rfl, trivial⟩, hGC, hS, hvv⟩
          · refine Stp.callG (args := [_]) rfl rfl rfl cal77 rfl rfl hS (int8_ok e _ _ hS.on (by omega)) ?_
            rintro yqe w MX hS hG9 qe
            obtain ⟨qea, qec, rfl, -, -, -, -⟩ := id qe
            obtain ⟨MC, hMC⟩ : ∃ MC, MC = MX := ⟨_, rfl⟩
            subst hMC
            have hGC := hGC.trans hG9
            try (have qa := qa.mono hG9.1)
            try (have qb := qb.mono hG9.1)
            try (have qc := qc.mono hG9.1)
            try (have qd := qd.mono hG9.1)
            try (have qf := qf.mono hG9.1)
            have hK0 : On M1 w := (hS.known hGC.1).on
            refine ⟨hK0, ?_⟩
            refine AL.two 5 17 rfl rfl (by kernel_rfl) rfl rfl ?_ ?_
            · refine Stp.s2b (l := s) rfl rfl underlying9 underlying30 underlying5 (by omega) hS rfl rfl ?_
              intro w yqb MX hS hG9 qb
              obtain ⟨qba, qbc, rfl, -, -, -, -⟩ := id qb
              obtain ⟨MC, hMC⟩ : ∃ MC, MC = MX := ⟨_, rfl⟩
              subst hMC
              have hGC := hGC.trans hG9
              try (have qa := qa.mono hG9.1)
              try (have qc := qc.mono hG9.1)
              try (have qd := qd.mono hG9.1)
              try (have qe := qe.mono hG9.1)
              try (have qf := qf.mono hG9.1)
              have hK0 : On M1 w := (hS.known hGC.1).on
              refine ⟨hK0, ?_⟩
              refine AL.one 17 rfl (by kernel_rfl) rfl (Stp.callG (args := [_]) rfl rfl rfl cal77 rfl rfl hS (int8_ok fl _ _ hS.on (by omega)) ?_)
              rintro yqf w MX hS hG9 qf
              obtain ⟨qfa, qfc, rfl, -, -, -, -⟩ := id qf
              obtain ⟨MC, hMC⟩ : ∃ MC, MC = MX := ⟨_, rfl⟩
              subst hMC
              have hGC := hGC.trans hG9
              try (have qa := qa.mono hG9.1)
              try (have qb := qb.mono hG9.1)
              try (have qc := qc.mono hG9.1)
              try (have qd := qd.mono hG9.1)
              try (have qe := qe.mono hG9.1)
              have hK0 : On M1 w := (hS.known hGC.1).on
              refine ⟨hK0, ?_⟩
              refine AL.one 18 rfl (by kernel_rfl) rfl (Stp.lit (vals := [(0, .slice qaa (c).length qac), (1, .slice qba (s).length qbc), (2, .slice qca (Tick.be8 f).length qcc), (3, .slice qda (Tick.be8 u).length qdc), (4, .slice qea (Tick.be8 e).length qec), (5, .slice qfa (Tick.be8 fl).length qfc)]) (cs := #[.slice qaa (c).length qac, .slice qba (s).length qbc, .slice qca (Tick.be8 f).length qcc, .slice qda (Tick.be8 u).length qdc, .slice qea (Tick.be8 e).length qec, .slice qfa (Tick.be8 fl).length qfc]) (e := 30) rfl rfl (fun _ => by kernel_rfl) rfl rfl hS ?_)
              intro b29 w hb29 hS hkp hnw
              have hF := hS.freezeG (i := 0) rfl hb29
              obtain ⟨MC, hG9, hlt, hS⟩ : ∃ M9, Grow w0.heap.size MC M9 ∧ M9 b29 = some (.cells #[.slice qaa (c).length qac, .slice qba (s).length qbc, .slice qca (Tick.be8 f).length qcc, .slice qda (Tick.be8 u).length qdc, .slice qea (Tick.be8 e).length qec, .slice qfa (Tick.be8 fl).length qfc] 30 (0, 0)) ∧ St w0 w M9 [] := ⟨_, hF.2, PH.add_self _ _ _, hF.1⟩
              have hGC := hGC.trans hG9
              have qa := qa.mono hG9.1
              have qb := qb.mono hG9.1
              have qc := qc.mono hG9.1
              have qd := qd.mono hG9.1
              have qe := qe.mono hG9.1
              have qf := qf.mono hG9.1
              have hK0 : On M1 w := (hS.known hGC.1).on
              refine ⟨hK0, ?_⟩
              refine AL.one 19 rfl (by kernel_rfl) rfl (Stp.callG (args := [_]) rfl rfl rfl cal76 rfl rfl hS (value_ok b29 0 6 [.slice qaa (c).length qac, .slice qba (s).length qbc, .slice qca (Tick.be8 f).length qcc, .slice qda (Tick.be8 u).length qdc, .slice qea (Tick.be8 e).length qec, .slice qfa (Tick.be8 fl).length qfc] [c, s, Tick.be8 f, Tick.be8 u, Tick.be8 e, Tick.be8 fl] _ _ hS.on (fun j x hj => by rw [Nat.zero_add]; exact PH.cell_of hlt (by rw [List.getElem?_toArray]; exact hj)) ⟨rfl, fun j hj => by
                rcases (by have hj' : j < 6 := hj; omega : j = 0 ∨ j = 1 ∨ j = 2 ∨ j = 3 ∨ j = 4 ∨ j = 5) with rfl | rfl | rfl | rfl | rfl | rfl
                · exact ⟨_, rfl, qa⟩
                · exact ⟨_, rfl, qb⟩
                · exact ⟨_, rfl, qc⟩
                · exact ⟨_, rfl, qd⟩
                · exact ⟨_, rfl, qe⟩
                · exact ⟨_, rfl, qf⟩⟩ (by show 0 < 6; decide) (by show 6 ≤ 255; decide) (by rw [Tick.enc_length]; simp only [List.map_cons, List.map_nil, List.sum_cons, List.sum_nil, Tick.be8_length]; have := hc.2; have := hs.2; omega)) ?_)
              rintro vv w MX hS hG9 hvv
              obtain ⟨MC, hMC⟩ : ∃ MC, MC = MX := ⟨_, rfl⟩
              subst hMC
              have hGC := hGC.trans hG9
              have hK0 : On M1 w := (hS.known hGC.1).on
              refine ⟨hK0, ?_⟩
              refine AL.take 20 rfl (by kernel_rfl) (by kernel_rfl) (by kernel_rfl) rfl rfl rfl hK0 (fun w hK => Res.assign rfl rfl) ?_
              refine AL.take 21 rfl (by kernel_rfl) (by kernel_rfl) (by kernel_rfl) rfl rfl rfl hK0 (fun w hK => Res.assign rfl rfl) ?_
              refine AL.done (by kernel_rfl) (Thn_n ?_)
              exact ⟨_, _, ⟨rfl, rfl, trivial⟩, hGC, hS, hvv⟩
            · refine Stp.callG (args := [_]) rfl rfl rfl cal77 rfl rfl hS (int8_ok fl _ _ hS.on (by omega)) ?_
              rintro yqf w MX hS hG9 qf
              obtain ⟨qfa, qfc, rfl, -, -, -, -⟩ := id qf
              obtain ⟨MC, hMC⟩ : ∃ MC, MC = MX := ⟨_, rfl⟩
              subst hMC
              have hGC := hGC.trans hG9
              try (have qa := qa.mono hG9.1)
              try (have qb := qb.mono hG9.1)
              try (have qc := qc.mono hG9.1)
              try (have qd := qd.mono hG9.1)
              try (have qe := qe.mono hG9.1)
              have hK0 : On M1 w := (hS.known hGC.1).on
              refine ⟨hK0, ?_⟩
              refine AL.one 5 rfl (by kernel_rfl) rfl (Stp.s2b (l := s) rfl rfl underlying9 underlying30 underlying5 (by omega) hS rfl rfl ?_)
              intro w yqb MX hS hG9 qb
              obtain ⟨qba, qbc, rfl, -, -, -, -⟩ := id qb
              obtain ⟨MC, hMC⟩ : ∃ MC, MC = MX := ⟨_, rfl⟩
              subst hMC
              have hGC := hGC.trans hG9
              try (have qa := qa.mono hG9.1)
              try (have qc := qc.mono hG9.1)
              try (have qd := qd.mono hG9.1)
              try (have qe := qe.mono hG9.1)
              try (have qf := qf.mono hG9.1)
              have hK0 : On M1 w := (hS.known hGC.1).on
              refine ⟨hK0, ?_⟩
              refine AL.one 18 rfl (by kernel_rfl) rfl (Stp.lit (vals := [(0, .slice qaa (c).length qac), (1, .slice qba (s).length qbc), (2, .slice qca (Tick.be8 f).length qcc), (3, .slice qda (Tick.be8 u).length qdc), (4, .slice qea (Tick.be8 e).length qec), (5, .slice qfa (Tick.be8 fl).length qfc)]) (cs := #[.slice qaa (c).length qac, .slice qba (s).length qbc, .slice qca (Tick.be8 f).length qcc, .slice qda (Tick.be8 u).length qdc, .slice qea (Tick.be8 e).length qec, .slice qfa (Tick.be8 fl).length qfc]) (e := 30) rfl rfl (fun _ => by kernel_rfl) rfl rfl hS ?_)
              intro b29 w hb29 hS hkp hnw
              have hF := hS.freezeG (i := 0) rfl hb29
              obtain ⟨MC, hG9, hlt, hS⟩ : ∃ M9, Grow w0.heap.size MC M9 ∧ M9 b29 = some (.cells #[.slice qaa (c).length qac, .slice qba (s).length qbc, .slice qca (Tick.be8 f).length qcc, .slice qda (Tick.be8 u).length qdc, .slice qea (Tick.be8 e).length qec, .slice qfa (Tick.be8 fl).length qfc] 30 (0, 0)) ∧ St w0 w M9 [] := ⟨_, hF.2, PH.add_self _ _ _, hF.1⟩
              have hGC := hGC.trans hG9
              have qa := qa.mono hG9.1
              have qb := qb.mono hG9.1
              have qc := qc.mono hG9.1
              have qd := qd.mono hG9.1
              have qe := qe.mono hG9.1
              have qf := qf.mono hG9.1
              have hK0 : On M1 w := (hS.known hGC.1).on
              refine ⟨hK0, ?_⟩
              refine AL.one 19 rfl (by kernel_rfl) rfl (Stp.callG (args := [_]) rfl rfl rfl cal76 rfl rfl hS (value_ok b29 0 6 [.slice qaa (c).length qac, .slice qba (s).length qbc, .slice qca (Tick.be8 f).length qcc, .slice qda (Tick.be8 u).length qdc, .slice qea (Tick.be8 e).length qec, .slice qfa (Tick.be8 fl).length qfc] [c, s, Tick.be8 f, Tick.be8 u, Tick.be8 e, Tick.be8 fl] _ _ hS.on (fun j x hj => by rw [Nat.zero_add]; exact PH.cell_of hlt (by rw [List.getElem?_toArray]; exact hj)) ⟨rfl, fun j hj => by
                rcases (by have hj' : j < 6 := hj; omega : j = 0 ∨ j = 1 ∨ j = 2 ∨ j = 3 ∨ j = 4 ∨ j = 5) with rfl | rfl | rfl | rfl | rfl | rfl
                · exact ⟨_, rfl, qa⟩
                · exact ⟨_, rfl, qb⟩
                · exact ⟨_, rfl, qc⟩
                · exact ⟨_, rfl, qd⟩
                · exact ⟨_, rfl, qe⟩
                · exact ⟨_, rfl, qf⟩⟩ (by show 0 < 6; decide) (by show 6 ≤ 255; decide) (by rw [Tick.enc_length]; simp only [List.map_cons, List.map_nil, List.sum_cons, List.sum_nil, Tick.be8_length]; have := hc.2; have := hs.2; omega)) ?_)
              rintro vv w MX hS hG9 hvv
              obtain ⟨MC, hMC⟩ : ∃ MC, MC = MX := ⟨_, rfl⟩
              subst hMC
              have hGC := hGC.trans hG9
              have hK0 : On M1 w := (hS.known hGC.1).on
              refine ⟨hK0, ?_⟩
              refine AL.take 20 rfl (by kernel_rfl) (by kernel_rfl) (by kernel_rfl) rfl rfl rfl hK0 (fun w hK => Res.assign rfl rfl) ?_
              refine AL.take 21 rfl (by kernel_rfl) (by kernel_rfl) (by kernel_rfl) rfl rfl rfl hK0 (fun w hK => Res.assign rfl rfl) ?_
              refine AL.done (by kernel_rfl) (Thn_n ?_)
              exact ⟨_, _, ⟨rfl, rfl, trivial⟩, hGC, hS, hvv⟩
    · refine Stp.s2b (l := s) rfl rfl underlying9 underlying30 underlying5 (by omega) hS rfl rfl ?_
      intro w yqb MX hS hG9 qb
      obtain ⟨qba, qbc, rfl, -, -, -, -⟩ := id qb
      obtain ⟨MC, hMC⟩ : ∃ MC, MC = MX := ⟨_, rfl⟩
      subst hMC
      have hGC := hGC.trans hG9
      try (have qa := qa.mono hG9.1)
      try (have qc := qc.mono hG9.1)
      try (have qd := qd.mono hG9.1)
      try (have qe := qe.mono hG9.1)
      try (have qf := qf.mono hG9.1)
      have hK0 : On M1 w := (hS.known hGC.1).on
      refine ⟨hK0, ?_⟩
      refine AL.two 2 8 rfl rfl (by kernel_rfl) rfl rfl ?_ ?_
      · refine Stp.s2b (l := c) rfl rfl underlying9 underlying30 underlying5 (by omega) hS rfl rfl ?_
        intro w yqa MX hS hG9 qa
        obtain ⟨qaa, qac, rfl, -, -, -, -⟩ := id qa
        obtain ⟨MC, hMC⟩ : ∃ MC, MC = MX := ⟨_, rfl⟩
        subst hMC
        have hGC := hGC.trans hG9
        try (have qb := qb.mono hG9.1)
        try (have qc := qc.mono hG9.1)
        try (have qd := qd.mono hG9.1)
        try (have qe := qe.mono hG9.1)
        try (have qf := qf.mono hG9.1)
        have hK0 : On M1 w := (hS.known hGC.1).on
        refine ⟨hK0, ?_⟩
        refine AL.one 8 rfl (by kernel_rfl) rfl (Stp.callG (args := [_]) rfl rfl rfl cal77 rfl rfl hS (int8_ok f _ _ hS.on (by omega)) ?_)
        rintro yqc w MX hS hG9 qc
        obtain ⟨qca, qcc, rfl, -, -, -, -⟩ := id qc
        obtain ⟨MC, hMC⟩ : ∃ MC, MC = MX := ⟨_, rfl⟩
        subst hMC
        have hGC := hGC.trans hG9
        try (have qa := qa.mono hG9.1)
        try (have qb := qb.mono hG9.1)
        try (have qd := qd.mono hG9.1)
        try (have qe := qe.mono hG9.1)
        try (have qf := qf.mono hG9.1)
        have hK0 : On M1 w := (hS.known hGC.1).on
        refine ⟨hK0, ?_⟩
        refine AL.one 11 rfl (by kernel_rfl) rfl (Stp.callG (args := [_]) rfl rfl rfl cal77 rfl rfl hS (int8_ok u _ _ hS.on (by omega)) ?_)
        rintro yqd w MX hS hG9 qd
        obtain ⟨qda, qdc, rfl, -, -, -, -⟩ := id qd
        obtain ⟨MC, hMC⟩ : ∃ MC, MC = MX := ⟨_, rfl⟩
        subst hMC
        have hGC := hGC.trans hG9
        try (have qa := qa.mono hG9.1)
        try (have qb := qb.mono hG9.1)
        try (have qc := qc.mono hG9.1)
        try (have qe := qe.mono hG9.1)
        try (have qf := qf.mono hG9.1)
        have hK0 : On M1 w := (hS.known hGC.1).on
        refine ⟨hK0, ?_⟩
        refine AL.one 14 rfl (by kernel_rfl) rfl (Stp.callG (args := [_]) rfl rfl rfl cal77 rfl rfl hS (int8_ok e _ _ hS.on (by omega)) ?_)
        rintro yqe w MX hS hG9 qe
        obtain ⟨qea, qec, rfl, -, -, -, -⟩ := id qe
        obtain ⟨MC, hMC⟩ : ∃ MC, MC = MX := ⟨_, rfl⟩
        subst hMC
        have hGC := hGC.trans hG9
        try (have qa := qa.mono hG9.1)
        try (have qb := qb.mono hG9.1)
        try (have qc := qc.mono hG9.1)
        try (have qd := qd.mono hG9.1)
        try (have qf := qf.mono hG9.1)
        have hK0 : On M1 w := (hS.known hGC.1).on
        refine ⟨hK0, ?_⟩
        refine AL.one 17 rfl (by kernel_rfl) rfl (Stp.callG (args := [_]) rfl rfl rfl cal77 rfl rfl hS (int8_ok fl _ _ hS.on (by omega)) ?_)
        rintro yqf w MX hS hG9 qf
        obtain ⟨qfa, qfc, rfl, -, -, -, -⟩ := id qf
        obtain ⟨MC, hMC⟩ : ∃ MC, MC = MX := ⟨_, rfl⟩
        subst hMC
        have hGC := hGC.trans hG9
        try (have qa := qa.mono hG9.1)
        try (have qb := qb.mono hG9.1)
        try (have qc := qc.mono hG9.1)
        try (have qd := qd.mono hG9.1)
        try (have qe := qe.mono hG9.1)
        have hK0 : On M1 w := (hS.known hGC.1).on
        refine ⟨hK0, ?_⟩
        refine AL.one 18 rfl (by kernel_rfl) rfl (Stp.lit (vals := [(0, .slice qaa (c).length qac), (1, .slice qba (s).length qbc), (2, .slice qca (Tick.be8 f).length qcc), (3, .slice qda (Tick.be8 u).length qdc), (4, .slice qea (Tick.be8 e).length qec), (5, .slice qfa (Tick.be8 fl).length qfc)]) (cs := #[.slice qaa (c).length qac, .slice qba (s).length qbc, .slice qca (Tick.be8 f).length qcc, .slice qda (Tick.be8 u).length qdc, .slice qea (Tick.be8 e).length qec, .slice qfa (Tick.be8 fl).length qfc]) (e := 30) rfl rfl (fun _ => by kernel_rfl) rfl rfl hS ?_)
        intro b29 w hb29 hS hkp hnw
        have hF := hS.freezeG (i := 0) rfl hb29
        obtain ⟨MC, hG9, hlt, hS⟩ : ∃ M9, Grow w0.heap.size MC M9 ∧ M9 b29 = some (.cells #[.slice qaa (c).length qac, .slice qba (s).length qbc, .slice qca (Tick.be8 f).length qcc, .slice qda (Tick.be8 u).length qdc, .slice qea (Tick.be8 e).length qec, .slice qfa (Tick.be8 fl).length qfc] 30 (0, 0)) ∧ St w0 w M9 [] := ⟨_, hF.2, PH.add_self _ _ _, hF.1⟩
        have hGC := hGC.trans hG9
        have qa := qa.mono hG9.1
        have qb := qb.mono hG9.1
        have qc := qc.mono hG9.1
        have qd := qd.mono hG9.1
        have qe := qe.mono hG9.1
        have qf := qf.mono hG9.1
        have hK0 : On M1 w := (hS.known hGC.1).on
        refine ⟨hK0, ?_⟩
        refine AL.one 19 rfl (by kernel_rfl) rfl (Stp.callG (args := [_]) rfl rfl rfl cal76 rfl rfl hS (value_ok b29 0 6 [.slice qaa (c).length qac, .slice qba (s).length qbc, .slice qca (Tick.be8 f).length qcc, .slice qda (Tick.be8 u).length qdc, .slice qea (Tick.be8 e).length qec, .slice qfa (Tick.be8 fl).length qfc] [c, s, Tick.be8 f, Tick.be8 u, Tick.be8 e, Tick.be8 fl] _ _ hS.on (fun j x hj => by rw [Nat.zero_add]; exact PH.cell_of hlt (by rw [List.getElem?_toArray]; exact hj)) ⟨rfl, fun j hj => by
          rcases (by have hj' : j < 6 := hj; omega : j = 0 ∨ j = 1 ∨ j = 2 ∨ j = 3 ∨ j = 4 ∨ j = 5) with rfl | rfl | rfl | rfl | rfl | rfl
          · exact ⟨_, rfl, qa⟩
          · exact ⟨_, rfl, qb⟩
          · exact ⟨_, rfl, qc⟩
          · exact ⟨_, rfl, qd⟩
          · exact ⟨_, rfl, qe⟩
          · exact ⟨_, rfl, qf⟩⟩ (by show 0 < 6; decide) (by show 6 ≤ 255; decide) (by rw [Tick.enc_length]; simp only [List.map_cons, List.map_nil, List.sum_cons, List.sum_nil, Tick.be8_length]; have := hc.2; have := hs.2; omega)) ?_)
        rintro vv w MX hS hG9 hvv
        obtain ⟨MC, hMC⟩ : ∃ MC, MC = MX := ⟨_, rfl⟩
        subst hMC
        have hGC := hGC.trans hG9
        have hK0 : On M1 w := (hS.known hGC.1).on
        refine ⟨hK0, ?_⟩
        refine AL.take 20 rfl (by kernel_rfl) (by kernel_rfl) (by kernel_rfl) rfl rfl rfl hK0 (fun w hK => Res.assign rfl rfl) ?_
        refine AL.take 21 rfl (by kernel_rfl) (by kernel_rfl) (by kernel_rfl) rfl rfl rfl hK0 (fun w hK => Res.assign rfl rfl) ?_
        refine AL.done (by kernel_rfl) (Thn_n ?_)
        exact ⟨_, _, ⟨rfl, rfl, trivial⟩, hGC, hS, hvv⟩
      · refine Stp.callG (args := [_]) rfl rfl rfl cal77 rfl rfl hS (int8_ok f _ _ hS.on (by omega)) ?_
        rintro yqc w MX hS hG9 qc
        obtain ⟨qca, qcc, rfl, -, -, -, -⟩ := id qc
        obtain ⟨MC, hMC⟩ : ∃ MC, MC = MX := ⟨_, rfl⟩
        subst hMC
        have hGC := hGC.trans hG9
        try (have qa := qa.mono hG9.1)
        try (have qb := qb.mono hG9.1)
        try (have qd := qd.mono hG9.1)
        try (have qe := qe.mono hG9.1)
        try (have qf := qf.mono hG9.1)
        have hK0 : On M1 w := (hS.known hGC.1).on
        refine ⟨hK0, ?_⟩
        refine AL.two 2 11 rfl rfl (by kernel_rfl) rfl rfl ?_ ?_
        · refine Stp.s2b (l := c) rfl rfl underlying9 underlying30 underlying5 (by omega) hS rfl rfl ?_
          intro w yqa MX hS hG9 qa
          obtain ⟨qaa, qac, rfl, -, -, -, -⟩ := id qa
          obtain ⟨MC, hMC⟩ : ∃ MC, MC = MX := ⟨_, rfl⟩
          subst hMC
          have hGC := hGC.trans hG9
          try (have qb := qb.mono hG9.1)
          try (have qc := qc.mono hG9.1)
          try (have qd := qd.mono hG9.1)
          try (have qe := qe.mono hG9.1)
          try (have qf := qf.mono hG9.1)
          have hK0 : On M1 w := (hS.known hGC.1).on
          refine ⟨hK0, ?_⟩
          refine AL.one 11 rfl (by kernel_rfl) rfl (Stp.callG (args := [_]) rfl rfl rfl cal77 rfl rfl hS (int8_ok u _ _ hS.on (by omega)) ?_)
          rintro yqd w MX hS hG9 qd
          obtain ⟨qda, qdc, rfl, -, -, -, -⟩ := id qd
          obtain ⟨MC, hMC⟩ : ∃ MC, MC = MX := ⟨_, rfl⟩
          subst hMC
          have hGC := hGC.trans hG9
          try (have qa := qa.mono hG9.1)
          try (have qb := qb.mono hG9.1)
          try (have qc := qc.mono hG9.1)
          try (have qe := qe.mono hG9.1)
          try (have qf := qf.mono hG9.1)
          have hK0 : On M1 w := (hS.known hGC.1).on
          refine ⟨hK0, ?_⟩
          refine AL.one 14 rfl (by kernel_rfl) rfl (Stp.callG (args := [_]) rfl rfl rfl cal77 rfl rfl hS (int8_ok e _ _ hS.on (by omega)) ?_)
          rintro yqe w MX hS hG9 qe
          obtain ⟨qea, qec, rfl, -, -, -, -⟩ := id qe
          obtain ⟨MC, hMC⟩ : ∃ MC, MC = MX := ⟨_, rfl⟩
          subst hMC
          have hGC := hGC.trans hG9
          try (have qa := qa.mono hG9.1)
          try (have qb := qb.mono hG9.1)
          try (have qc := qc.mono hG9.1)
          try (have qd := qd.mono hG9.1)
          try (have qf := qf.mono hG9.1)
          have hK0 : On M1 w := (hS.known hGC.1).on
          refine ⟨hK0, ?_⟩
          refine AL.one 17 rfl (by kernel_rfl) rfl (Stp.callG (args := [_]) rfl rfl rfl cal77 rfl rfl hS (int8_ok fl _ _ hS.on (by omega)) ?_)
          rintro yqf w MX hS hG9 qf
          obtain ⟨qfa, qfc, rfl, -, -, -, -⟩ := id qf
          obtain ⟨MC, hMC⟩ : ∃ MC, MC = MX := ⟨_, rfl⟩
          subst hMC
          have hGC := hGC.trans hG9
          try (have qa := qa.mono hG9.1)
          try (have qb := qb.mono hG9.1)
          try (have qc := qc.mono hG9.1)
          try (have qd := qd.mono hG9.1)
          try (have qe := qe.mono hG9.1)
          have hK0 : On M1 w := (hS.known hGC.1).on
          refine ⟨hK0, ?_⟩
          refine AL.one 18 rfl (by kernel_rfl) rfl (Stp.lit (vals := [(0, .slice qaa (c).length qac), (1, .slice qba (s).length qbc), (2, .slice qca (Tick.be8 f).length qcc), (3, .slice qda (Tick.be8 u).length qdc), (4, .slice qea (Tick.be8 e).length qec), (5, .slice qfa (Tick.be8 fl).length qfc)]) (cs := #[.slice qaa (c).length qac, .slice qba (s).length qbc, .slice qca (Tick.be8 f).length qcc, .slice qda (Tick.be8 u).length qdc, .slice qea (Tick.be8 e).length qec, .slice qfa (Tick.be8 fl).length qfc]) (e := 30) rfl rfl (fun _ => by kernel_rfl) rfl rfl hS ?_)
          intro b29 w hb29 hS hkp hnw
          have hF := hS.freezeG (i := 0) rfl hb29
          obtain ⟨MC, hG9, hlt, hS⟩ : ∃ M9, Grow w0.heap.size MC M9 ∧ M9 b29 = some (.cells #[.slice qaa (c).length qac, .slice qba (s).length qbc, .slice qca (Tick.be8 f).length qcc, .slice qda (Tick.be8 u).length qdc, .slice qea (Tick.be8 e).length qec, .slice qfa (Tick.be8 fl).length qfc] 30 (0, 0)) ∧ St w0 w M9 [] := ⟨_, hF.2, PH.add_self _ _ _, hF.1⟩
          have hGC := hGC.trans hG9
          have qa := qa.mono hG9.1
          have qb := qb.mono hG9.1
          have qc := qc.mono hG9.1
          have qd := qd.mono hG9.1
          have qe := qe.mono hG9.1
          have qf := qf.mono hG9.1
          have hK0 : On M1 w := (hS.known hGC.1).on
          refine ⟨hK0, ?_⟩
          refine AL.one 19 rfl (by kernel_rfl) rfl (Stp.callG (args := [_]) rfl rfl rfl cal76 rfl rfl hS (value_ok b29 0 6 [.slice qaa (c).length qac, .slice qba (s).length qbc, .slice qca (Tick.be8 f).length qcc, .slice qda (Tick.be8 u).length qdc, .slice qea (Tick.be8 e).length qec, .slice qfa (Tick.be8 fl).length qfc] [c, s, Tick.be8 f, Tick.be8 u, Tick.be8 e, Tick.be8 fl] _ _ hS.on (fun j x hj => by rw [Nat.zero_add]; exact PH.cell_of hlt (by rw [List.getElem?_toArray]; exact hj)) ⟨rfl, fun j hj => by
            rcases (by have hj' : j < 6 := hj; omega : j = 0 ∨ j = 1 ∨ j = 2 ∨ j = 3 ∨ j = 4 ∨ j = 5) with rfl | rfl | rfl | rfl | rfl | rfl
            · exact ⟨_, rfl, qa⟩
            · exact ⟨_, rfl, qb⟩
            · exact ⟨_, rfl, qc⟩
            · exact ⟨_, rfl, qd⟩
            · exact ⟨_, rfl, qe⟩
            · exact ⟨_, rfl, qf⟩⟩ (by show 0 < 6; decide) (by show 6 ≤ 255; decide) (by rw [Tick.enc_length]; simp only [List.map_cons, List.map_nil, List.sum_cons, List.sum_nil, Tick.be8_length]; have := hc.2; have := hs.2; omega)) ?_)
          rintro vv w MX hS hG9 hvv
          obtain ⟨MC, hMC⟩ : ∃ MC, MC = MX := ⟨_, rfl⟩
          subst hMC
          have hGC := hGC.trans hG9
          have hK0 : On M1 w := (hS.known hGC.1).on
          refine ⟨hK0, ?_⟩
          refine AL.take 20 rfl (by kernel_rfl) (by kernel_rfl) (by kernel_rfl) rfl rfl rfl hK0 (fun w hK => Res.assign rfl rfl) ?_
          refine AL.take 21 rfl (by kernel_rfl) (by kernel_rfl) (by kernel_rfl) rfl rfl rfl hK0 (fun w hK => Res.assign rfl rfl) ?_
          refine AL.done (by kernel_rfl) (Thn_n ?_)
          exact ⟨_, _, ⟨rfl, rfl, trivial⟩, hGC, hS, hvv⟩
        · refine Stp.callG (args := [_]) rfl rfl rfl cal77 rfl rfl hS (int8_ok u _ _ hS.on (by omega)) ?_
          rintro yqd w MX hS hG9 qd
          obtain ⟨qda, qdc, rfl, -, -, -, -⟩ := id qd
          obtain ⟨MC, hMC⟩ : ∃ MC, MC = MX := ⟨_, rfl⟩
          subst hMC
          have hGC := hGC.trans hG9
          try (have qa := qa.mono hG9.1)
          try (have qb := qb.mono hG9.1)
          try (have qc := qc.mono hG9.1)
          try (have qe := qe.mono hG9.1)
          try (have qf := qf.mono hG9.1)
          have hK0 : On M1 w := (hS.known hGC.1).on
          refine ⟨hK0, ?_⟩
          refine AL.two 2 14 rfl rfl (by kernel_rfl) rfl rfl ?_ ?_
          · refine Stp.s2b (l := c) rfl rfl underlying9 underlying30 underlying5 (by omega) hS rfl rfl ?_
            intro w yqa MX hS hG9 qa
            obtain ⟨qaa, qac, rfl, -, -, -, -⟩ := id qa
            obtain ⟨MC, hMC⟩ : ∃ MC, MC = MX := ⟨_, rfl⟩
            subst hMC
            have hGC := hGC.trans hG9
            try (have qb := qb.mono hG9.1)
            try (have qc := qc.mono hG9.1)
            try (have qd := qd.mono hG9.1)
            try (have qe := qe.mono hG9.1)
            try (have qf := qf.mono hG9.1)
            have hK0 : On M1 w := (hS.known hGC.1).on
            refine ⟨hK0, ?_⟩
            refine AL.one 14 rfl (by kernel_rfl) rfl (Stp.callG (args := [_]) rfl rfl rfl cal77 rfl rfl hS (int8_ok e _ _ hS.on (by omega)) ?_)
            rintro yqe w MX hS hG9 qe
            obtain ⟨qea, qec, rfl, -, -, -, -⟩ := id qe
            obtain ⟨MC, hMC⟩ : ∃ MC, MC = MX := ⟨_, rfl⟩
            subst hMC
            have hGC := hGC.trans hG9
            try (have qa := qa.mono hG9.1)
            try (have qb := qb.mono hG9.1)
            try (have qc := qc.mono hG9.1)
            try (have qd := qd.mono hG9.1)
            try (have qf := qf.mono hG9.1)
            have hK0 : On M1 w := (hS.known hGC.1).on
            refine ⟨hK0, ?_⟩
            refine AL.one 17 rfl (by kernel_rfl) rfl (Stp.callG (args := [_]) rfl rfl rfl cal77 rfl rfl hS (int8_ok fl _ _ hS.on (by omega)) ?_)
            rintro yqf w MX hS hG9 qf
            obtain ⟨qfa, qfc, rfl, -, -, -, -⟩ := id qf
            obtain ⟨MC, hMC⟩ : ∃ MC, MC = MX := ⟨_, rfl⟩
            subst hMC
            have hGC := hGC.trans hG9
            try (have qa := qa.mono hG9.1)
            try (have qb := qb.mono hG9.1)
            try (have qc := qc.mono hG9.1)
            try (have qd := qd.mono hG9.1)
            try (have qe := qe.mono hG9.1)
            have hK0 : On M1 w := (hS.known hGC.1).on
            refine ⟨hK0, ?_⟩
            refine AL.one 18 rfl (by kernel_rfl) rfl (Stp.lit (vals := [(0, .slice qaa (c).length qac), (1, .slice qba (s).length qbc), (2, .slice qca (Tick.be8 f).length qcc), (3, .slice qda (Tick.be8 u).length qdc), (4, .slice qea (Tick.be8 e).length qec), (5, .slice qfa (Tick.be8 fl).length qfc)]) (cs := #[.slice qaa (c).length qac, .slice qba (s).length qbc, .slice qca (Tick.be8 f).length qcc, .slice qda (Tick.be8 u).length qdc, .slice qea (Tick.be8 e).length qec, .slice qfa (Tick.be8 fl).length qfc]) (e := 30) rfl rfl (fun _ => by kernel_rfl) rfl rfl hS ?_)
            intro b29 w hb29 hS hkp hnw
            have hF := hS.freezeG (i := 0) rfl hb29
            obtain ⟨MC, hG9, hlt, hS⟩ : ∃ M9, Grow w0.heap.size MC M9 ∧ M9 b29 = some (.cells #[.slice qaa (c).length qac, .slice qba (s).length qbc, .slice qca (Tick.be8 f).length qcc, .slice qda (Tick.be8 u).length qdc, .slice qea (Tick.be8 e).length qec, .slice qfa (Tick.be8 fl).length qfc] 30 (0, 0)) ∧ St w0 w M9 [] := ⟨_, hF.2, PH.add_self _ _ _, hF.1⟩
            have hGC := hGC.trans hG9
            have qa := qa.mono hG9.1
            have qb := qb.mono hG9.1
            have qc := qc.mono hG9.1
            have qd := qd.mono hG9.1
            have qe := qe.mono hG9.1
            have qf := qf.mono hG9.1
            have hK0 : On M1 w := (hS.known hGC.1).on
            refine ⟨hK0, ?_⟩
            refine AL.one 19 rfl (by kernel_rfl) rfl (Stp.callG (args := [_]) rfl rfl rfl cal76 rfl rfl hS (value_ok b29 0 6 [.slice qaa (c).length qac, .slice qba (s).length qbc, .slice qca (Tick.be8 f).length qcc, .slice qda (Tick.be8 u).length qdc, .slice qea (Tick.be8 e).length qec, .slice qfa (Tick.be8 fl).length qfc] [c, s, Tick.be8 f, Tick.be8 u, Tick.be8 e, Tick.be8 fl] _ _ hS.on (fun j x hj => by rw [Nat.zero_add]; exact PH.cell_of hlt (by rw [List.getElem?_toArray]; exact hj)) ⟨rfl, fun j hj => by
              rcases (by have hj' : j < 6 := hj; omega : j = 0 ∨ j = 1 ∨ j = 2 ∨ j = 3 ∨ j = 4 ∨ j = 5) with rfl | rfl | rfl | rfl | rfl | rfl
              · exact ⟨_, rfl, qa⟩
              · exact ⟨_, rfl, qb⟩
              · exact ⟨_, rfl, qc⟩
              · exact ⟨_, rfl, qd⟩
              · exact ⟨_, rfl, qe⟩
              · exact ⟨_, rfl, qf⟩⟩ (by show 0 < 6; decide) (by show 6 ≤ 255; decide) (by rw [Tick.enc_length]; simp only [List.map_cons, List.map_nil, List.sum_cons, List.sum_nil, Tick.be8_length]; have := hc.2; have := hs.2; omega)) ?_)
            rintro vv w MX hS hG9 hvv
            obtain ⟨MC, hMC⟩ : ∃ MC, MC = MX := ⟨_, rfl⟩
            subst hMC
            have hGC := hGC.trans hG9
            have hK0 : On M1 w := (hS.known hGC.1).on
            refine ⟨hK0, ?_⟩
            refine AL.take 20 rfl (by kernel_rfl) (by kernel_rfl) (by kernel_rfl) rfl rfl rfl hK0 (fun w hK => Res.assign rfl rfl) ?_
            refine AL.take 21 rfl (by kernel_rfl) (by kernel_rfl) (by kernel_rfl) rfl rfl rfl hK0 (fun w hK => Res.assign rfl rfl) ?_
            refine AL.done (by kernel_rfl) (Thn_n ?_)
            exact ⟨_, _, ⟨rfl, rfl, trivial⟩, hGC, hS, hvv⟩
          · refine Stp.callG (args := [_]) rfl rfl rfl cal77 rfl rfl hS (int8_ok e _ _ hS.on (by omega)) ?_
            rintro yqe w MX hS hG9 qe
            obtain ⟨qea, qec, rfl, -, -, -, -⟩ := id qe
            obtain ⟨MC, hMC⟩ : ∃ MC, MC = MX := ⟨_, rfl⟩
            subst hMC
            have hGC := hGC.trans hG9
            try (have qa := qa.mono hG9.1)
            try (have qb := qb.mono hG9.1)
            try (have qc := qc.mono hG9.1)
            try (have qd := qd.mono hG9.1)
            try (have qf := qf.mono hG9.1)
            have hK0 : On M1 w := (hS.known hGC.1).on
            refine ⟨hK0, ?_⟩
            refine AL.two 2 17 rfl rfl (by kernel_rfl) rfl rfl ?_ ?_
            · refine Stp.s2b (l := c) rfl rfl underlying9 underlying30 underlying5 (by omega) hS rfl rfl ?_
              intro w yqa MX hS hG9 qa
              obtain ⟨qaa, qac, rfl, -, -, -, -⟩ := id qa
              obtain ⟨MC, hMC⟩ : ∃ MC, MC = MX := ⟨_, rfl⟩
              subst hMC
              have hGC := hGC.trans hG9
              try (have qb := qb.mono hG9.1)
              try (have qc := qc.mono hG9.1)
              try (have qd := qd.mono hG9.1)
              try (have qe := qe.mono hG9.1)
              try (have qf := qf.mono hG9.1)
              have hK0 : On M1 w := (hS.known hGC.1).on
              refine ⟨hK0, ?_⟩
              refine AL.one 17 rfl (by kernel_rfl) rfl (Stp.callG (args := [_]) rfl rfl rfl cal77 rfl rfl hS (int8_ok fl _ _ hS.on (by omega)) ?_)
              rintro yqf w MX hS hG9 qf
              obtain ⟨qfa, qfc, rfl, -, -, -, -⟩ := id qf
              obtain ⟨MC, hMC⟩ : ∃ MC, MC = MX := ⟨_, rfl⟩
              subst hMC
              have hGC := hGC.trans hG9
              try (have qa := qa.mono hG9.1)
              try (have qb := qb.mono hG9.1)
              try (have qc := qc.mono hG9.1)
              try (have qd := qd.mono hG9.1)
              try (have qe := qe.mono hG9.1)
              have hK0 : On M1 w := (hS.known hGC.1).on
              refine ⟨hK0, ?_⟩
              refine AL.one 18 rfl (by kernel_rfl) rfl (Stp.lit (vals := [(0, .slice qaa (c).length qac), (1, .slice qba (s).length qbc), (2, .slice qca (Tick.be8 f).length qcc), (3, .slice qda (Tick.be8 u).length qdc), (4, .slice qea (Tick.be8 e).length qec), (5, .slice qfa (Tick.be8 fl).length qfc)]) (cs := #[.slice qaa (c).length qac, .slice qba (s).length qbc, .slice qca (Tick.be8 f).length qcc, .slice qda (Tick.be8 u).length qdc, .slice qea (Tick.be8 e).length qec, .slice qfa (Tick.be8 fl).length qfc]) (e := 30) rfl rfl (fun _ => by kernel_rfl) rfl rfl hS ?_)
              intro b29 w hb29 hS hkp hnw
              have hF := hS.freezeG (i := 0) rfl hb29
              obtain ⟨MC, hG9, hlt, hS⟩ : ∃ M9, Grow w0.heap.size MC M9 ∧ M9 b29 = some (.cells #[.slice qaa (c).length qac, .slice qba (s).length qbc, .slice qca (Tick.be8 f).length qcc, .slice qda (Tick.be8 u).length qdc, .slice qea (Tick.be8 e).length qec, .slice qfa (Tick.be8 fl).length qfc] 30 (0, 0)) ∧ St w0 w M9 [] := ⟨_, hF.2, PH.add_self _ _ _, hF.1⟩
              have hGC := hGC.trans hG9
              have qa := qa.mono hG9.1
              have qb := qb.mono hG9.1
              have qc := qc.mono hG9.1
              have qd := qd.mono hG9.1
              have qe := qe.mono hG9.1
              have qf := qf.mono hG9.1
              have hK0 : On M1 w := (hS.known hGC.1).on
              refine ⟨hK0, ?_⟩
              refine AL.one 19 rfl (by kernel_rfl) rfl (Stp.callG (args := [_]) rfl rfl rfl cal76 rfl rfl hS (value_ok b29 0 6 [.slice qaa (c).length qac, .slice qba (s).length qbc, .slice qca (Tick.be8 f).length qcc, .slice qda (Tick.be8 u).length qdc, .slice qea (Tick.be8 e).length qec, .slice qfa (Tick.be8 fl).length qfc] [c, s, Tick.be8 f, Tick.be8 u, Tick.be8 e, Tick.be8 fl] _ _ hS.on (fun j x hj => by rw [Nat.zero_add]; exact PH.cell_of hlt (by rw [List.getElem?_toArray]; exact hj)) ⟨rfl, fun j hj => by
                rcases (by have hj' : j < 6 := hj; omega : j = 0 ∨ j = 1 ∨ j = 2 ∨ j = 3 ∨ j = 4 ∨ j = 5) with rfl | rfl | rfl | rfl | rfl | rfl
                · exact ⟨_, rfl, qa⟩
                · exact ⟨_, rfl, qb⟩
                · exact ⟨_, rfl, qc⟩
                · exact ⟨_, rfl, qd⟩
                · exact ⟨_, rfl, qe⟩
                · exact ⟨_, rfl, qf⟩⟩ (by show 0 < 6; decide) (by show 6 ≤ 255; decide) (by rw [Tick.enc_length]; simp only [List.map_cons, List.map_nil, List.sum_cons, List.sum_nil, Tick.be8_length]; have := hc.2; have := hs.2; omega)) ?_)
              rintro vv w MX hS hG9 hvv
              obtain ⟨MC, hMC⟩ : ∃ MC, MC = MX := ⟨_, rfl⟩
              subst hMC
              have hGC := hGC.trans hG9
              have hK0 : On M1 w := (hS.known hGC.1).on
              refine ⟨hK0, ?_⟩
              refine AL.take 20 rfl (by kernel_rfl) (by kernel_rfl) (by kernel_rfl) rfl rfl rfl hK0 (fun w hK => Res.assign rfl rfl) ?_
              refine AL.take 21 rfl (by kernel_rfl) (by kernel_rfl) (by kernel_rfl) rfl rfl rfl hK0 (fun w hK => Res.assign rfl rfl) ?_
              refine AL.done (by kernel_rfl) (Thn_n ?_)
              exact ⟨_, _, ⟨rfl, rfl, trivial⟩, hGC, hS, hvv⟩
            · refine Stp.callG (args := [_]) rfl rfl rfl cal77 rfl rfl hS (int8_ok fl _ _ hS.on (by omega)) ?_
              rintro yqf w MX hS hG9 qf
              obtain ⟨qfa, qfc, rfl, -, -, -, -⟩ := id qf
              obtain ⟨MC, hMC⟩ : ∃ MC, MC = MX := ⟨_, rfl⟩
              subst hMC
              have hGC := hGC.trans hG9
              try (have qa := qa.mono hG9.1)
              try (have qb := qb.mono hG9.1)
              try (have qc := qc.mono hG9.1)
              try (have qd := qd.mono hG9.1)
              try (have qe := qe.mono hG9.1)
              have hK0 : On M1 w := (hS.known hGC.1).on
              refine ⟨hK0, ?_⟩
              refine AL.one 2 rfl (by kernel_rfl) rfl (Stp.s2b (l := c) rfl rfl underlying9 underlying30 underlying5 (by omega) hS rfl rfl ?_)
              intro w yqa MX hS hG9 qa
              obtain ⟨qaa, qac, rfl, -, -, -, -⟩ := id qa
              obtain ⟨MC, hMC⟩ : ∃ MC, MC = MX := ⟨_, rfl⟩
              subst hMC
              have hGC := hGC.trans hG9
              try (have qb := qb.mono hG9.1)
              try (have qc := qc.mono hG9.1)
              try (have qd := qd.mono hG9.1)
              try (have qe := qe.mono hG9.1)
              try (have qf := qf.mono hG9.1)
              have hK0 : On M1 w := (hS.known hGC.1).on
              refine ⟨hK0, ?_⟩
              refine AL.one 18 rfl (by kernel_rfl) rfl (Stp.lit (vals := [(0, .slice qaa (c).length qac), (1, .slice qba (s).length qbc), (2, .slice qca (Tick.be8 f).length qcc), (3, .slice qda (Tick.be8 u).length qdc), (4, .slice qea (Tick.be8 e).length qec), (5, .slice qfa (Tick.be8 fl).length qfc)]) (cs := #[.slice qaa (c).length qac, .slice qba (s).length qbc, .slice qca (Tick.be8 f).length qcc, .slice qda (Tick.be8 u).length qdc, .slice qea (Tick.be8 e).length qec, .slice qfa (Tick.be8 fl).length qfc]) (e := 30) rfl rfl (fun _ => by kernel_rfl) rfl rfl hS ?_)
              intro b29 w hb29 hS hkp hnw
              have hF := hS.freezeG (i := 0) rfl hb29
              obtain ⟨MC, hG9, hlt, hS⟩ : ∃ M9, Grow w0.heap.size MC M9 ∧ M9 b29 = some (.cells #[.slice qaa (c).length qac, .slice qba (s).length qbc, .slice qca (Tick.be8 f).length qcc, .slice qda (Tick.be8 u).length qdc, .slice qea (Tick.be8 e).length qec, .slice qfa (Tick.be8 fl).length qfc] 30 (0, 0)) ∧ St w0 w M9 [] := ⟨_, hF.2, PH.add_self _ _ _, hF.1⟩
              have hGC := hGC.trans hG9
              have qa := qa.mono hG9.1
              have qb := qb.mono hG9.1
              have qc := qc.mono hG9.1
              have qd := qd.mono hG9.1
              have qe := qe.mono hG9.1
              have qf := qf.mono hG9.1
              have hK0 : On M1 w := (hS.known hGC.1).on
              refine ⟨hK0, ?_⟩
              refine AL.one 19 rfl (by kernel_rfl) rfl (Stp.callG (args := [_]) rfl rfl rfl cal76 rfl rfl hS (value_ok b29 0 6 [.slice qaa (c).length qac, .slice qba (s).length qbc, .slice qca (Tick.be8 f).length qcc, .slice qda (Tick.be8 u).length qdc, .slice qea (Tick.be8 e).length qec, .slice qfa (Tick.be8 fl).length qfc] [c, s, Tick.be8 f, Tick.be8 u, Tick.be8 e, Tick.be8 fl] _ _ hS.on (fun j x hj => by rw [Nat.zero_add]; exact PH.cell_of hlt (by rw [List.getElem?_toArray]; exact hj)) ⟨rfl, fun j hj => by
                rcases (by have hj' : j < 6 := hj; omega : j = 0 ∨ j = 1 ∨ j = 2 ∨ j = 3 ∨ j = 4 ∨ j = 5) with rfl | rfl | rfl | rfl | rfl | rfl
                · exact ⟨_, rfl, qa⟩
                · exact ⟨_, rfl, qb⟩
                · exact ⟨_, rfl, qc⟩
                · exact ⟨_, rfl, qd⟩
                · exact ⟨_, rfl, qe⟩
                · exact ⟨_, rfl, qf⟩⟩ (by show 0 < 6; decide) (by show 6 ≤ 255; decide) (by rw [Tick.enc_length]; simp only [List.map_cons, List.map_nil, List.sum_cons, List.sum_nil, Tick.be8_length]; have := hc.2; have := hs.2; omega)) ?_)
              rintro vv w MX hS hG9 hvv
              obtain ⟨MC, hMC⟩ : ∃ MC, MC = MX := ⟨_, rfl⟩
              subst hMC
              have hGC := hGC.trans hG9
              have hK0 : On M1 w := (hS.known hGC.1).on
              refine ⟨hK0, ?_⟩
              refine AL.take 20 rfl (by kernel_rfl) (by kernel_rfl) (by kernel_rfl) rfl rfl rfl hK0 (fun w hK => Res.assign rfl rfl) ?_
              refine AL.take 21 rfl (by kernel_rfl) (by kernel_rfl) (by kernel_rfl) rfl rfl rfl hK0 (fun w hK => Res.assign rfl rfl) ?_
              refine AL.done (by kernel_rfl) (Thn_n ?_)
              exact ⟨_, _, ⟨rfl, rfl, trivial⟩, hGC, hS, hvv⟩
    · refine Stp.callG (args := [_]) rfl rfl rfl cal77 rfl rfl hS (int8_ok f _ _ hS.on (by omega)) ?_
      rintro yqc w MX hS hG9 qc
      obtain ⟨qca, qcc, rfl, -, -, -, -⟩ := id qc
      obtain ⟨MC, hMC⟩ : ∃ MC, MC = MX := ⟨_, rfl⟩
      subst hMC
      have hGC := hGC.trans hG9
      try (have qa := qa.mono hG9.1)
      try (have qb := qb.mono hG9.1)
      try (have qd := qd.mono hG9.1)
      try (have qe := qe.mono hG9.1)
      try (have qf := qf.mono hG9.1)
      have hK0 : On M1 w := (hS.known hGC.1).on
      refine ⟨hK0, ?_⟩
      refine AL.three 2 5 11 rfl rfl rfl (by kernel_rfl) (Wan.none rfl) (Wan.none rfl) (Wan.none rfl) ?_ ?_ ?_
      · refine Stp.s2b (l := c) rfl rfl underlying9 underlying30 underlying5 (by omega) hS rfl rfl ?_
        intro w yqa MX hS hG9 qa
        obtain ⟨qaa, qac, rfl, -, -, -, -⟩ := id qa
        obtain ⟨MC, hMC⟩ : ∃ MC, MC = MX := ⟨_, rfl⟩
        subst hMC
        have hGC := hGC.trans hG9
        try (have qb := qb.mono hG9.1)
        try (have qc := qc.mono hG9.1)
        try (have qd := qd.mono hG9.1)
        try (have qe := qe.mono hG9.1)
        try (have qf := qf.mono hG9.1)
        have hK0 : On M1 w := (hS.known hGC.1).on
        refine ⟨hK0, ?_⟩
        refine AL.two 5 11 rfl rfl (by kernel_rfl) rfl rfl ?_ ?_
        · refine Stp.s2b (l := s) rfl rfl underlying9 underlying30 underlying5 (by omega) hS rfl rfl ?_
          intro w yqb MX hS hG9 qb
          obtain ⟨qba, qbc, rfl, -, -, -, -⟩ := id qb
          obtain ⟨MC, hMC⟩ : ∃ MC, MC = MX := ⟨_, rfl⟩
          subst hMC
          have hGC := hGC.trans hG9
          try (have qa := qa.mono hG9.1)
          try (have qc := qc.mono hG9.1)
          try (have qd := qd.mono hG9.1)
          try (have qe := qe.mono hG9.1)
          try (have qf := qf.mono hG9.1)
          have hK0 : On M1 w := (hS.known hGC.1).on
          refine ⟨hK0, ?_⟩
          refine AL.one 11 rfl (by kernel_rfl) rfl (Stp.callG (args := [_]) rfl rfl rfl cal77 rfl rfl hS (int8_ok u _ _ hS.on (by omega)) ?_)
          rintro yqd w MX hS hG9 qd
          obtain ⟨qda, qdc, rfl, -, -, -, -⟩ := id qd
          obtain ⟨MC, hMC⟩ : ∃ MC, MC = MX := ⟨_, rfl⟩
          subst hMC
          have hGC := hGC.trans hG9
          try (have qa := qa.mono hG9.1)
          try (have qb := qb.mono hG9.1)
          try (have qc := qc.mono hG9.1)
          try (have qe := qe.mono hG9.1)
          try (have qf := qf.mono hG9.1)
          have hK0 : On M1 w := (hS.known hGC.1).on
          refine ⟨hK0, ?_⟩
          refine AL.one 14 rfl (by kernel_rfl) rfl (Stp.callG (args := [_]) rfl rfl rfl cal77 rfl rfl hS (int8_ok e _ _ hS.on (by omega)) ?_)
          rintro yqe w MX hS hG9 qe
          obtain ⟨qea, qec, rfl, -, -, -, -⟩ := id qe
          obtain ⟨MC, hMC⟩ : ∃ MC, MC = MX := ⟨_, rfl⟩
          subst hMC
          have hGC := hGC.trans hG9
          try (have qa := qa.mono hG9.1)
          try (have qb := qb.mono hG9.1)
          try (have qc := qc.mono hG9.1)
          try (have qd := qd.mono hG9.1)
          try (have qf := qf.mono hG9.1)
          have hK0 : On M1 w := (hS.known hGC.1).on
          refine ⟨hK0, ?_⟩
          refine AL.one 17 rfl (by kernel_rfl) rfl (Stp.callG (args := [_]) rfl rfl rfl cal77 rfl rfl hS (int8_ok fl _ _ hS.on (by omega)) ?_)
          rintro yqf w MX hS hG9 qf
          obtain ⟨qfa, qfc, rfl, -, -, -, -⟩ := id qf
          obtain ⟨MC, hMC⟩ : ∃ MC, MC = MX := ⟨_, rfl⟩
          subst hMC
          have hGC := hGC.trans hG9
          try (have qa := qa.mono hG9.1)
          try (have qb := qb.mono hG9.1)
          try (have qc := qc.mono hG9.1)
          try (have qd := qd.mono hG9.1)
          try (have qe := qe.mono hG9.1)
          have hK0 : On M1 w := (hS.known hGC.1).on
          refine ⟨hK0, ?_⟩
          refine AL.one 18 rfl (by kernel_rfl) rfl (Stp.lit (vals := [(0, .slice qaa (c).length qac), (1, .slice qba (s).length qbc), (2, .slice qca (Tick.be8 f).length qcc), (3, .slice qda (Tick.be8 u).length qdc), (4, .slice qea (Tick.be8 e).length qec), (5, .slice qfa (Tick.be8 fl).length qfc)]) (cs := #[.slice qaa (c).length qac, .slice qba (s).length qbc, .slice qca (Tick.be8 f).length qcc, .slice qda (Tick.be8 u).length qdc, .slice qea (Tick.be8 e).length qec, .slice qfa (Tick.be8 fl).length qfc]) (e := 30) rfl rfl (fun _ => by kernel_rfl) rfl rfl hS ?_)
          intro b29 w hb29 hS hkp hnw
          have hF := hS.freezeG (i := 0) rfl hb29
          obtain ⟨MC, hG9, hlt, hS⟩ : ∃ M9, Grow w0.heap.size MC M9 ∧ M9 b29 = some (.cells #[.slice qaa (c).length qac, .slice qba (s).length qbc, .slice qca (Tick.be8 f).length qcc, .slice qda (Tick.be8 u).length qdc, .slice qea (Tick.be8 e).length qec, .slice qfa (Tick.be8 fl).length qfc] 30 (0, 0)) ∧ St w0 w M9 [] := ⟨_, hF.2, PH.add_self _ _ _, hF.1⟩
          have hGC := hGC.trans hG9
          have qa := qa.mono hG9.1
          have qb := qb.mono hG9.1
          have qc := qc.mono hG9.1
          have qd := qd.mono hG9.1
          have qe := qe.mono hG9.1
          have qf := qf.mono hG9.1
          have hK0 : On M1 w := (hS.known hGC.1).on
          refine ⟨hK0, ?_⟩
          refine AL.one 19 rfl (by kernel_rfl) rfl (Stp.callG (args := [_]) rfl rfl rfl cal76 rfl rfl hS (value_ok b29 0 6 [.slice qaa (c).length qac, .slice qba (s).length qbc, .slice qca (Tick.be8 f).length qcc, .slice qda (Tick.be8 u).length qdc, .slice qea (Tick.be8 e).length qec, .slice qfa (Tick.be8 fl).length qfc] [c, s, Tick.be8 f, Tick.be8 u, Tick.be8 e, Tick.be8 fl] _ _ hS.on (fun j x hj => by rw [Nat.zero_add]; exact PH.cell_of hlt (by rw [List.getElem?_toArray]; exact hj)) ⟨rfl, fun j hj => by
            rcases (by have hj' : j < 6 := hj; omega : j = 0 ∨ j = 1 ∨ j = 2 ∨ j = 3 ∨ j = 4 ∨ j = 5) with rfl | rfl | rfl | rfl | rfl | rfl
            · exact ⟨_, rfl, qa⟩
            · exact ⟨_, rfl, qb⟩
            · exact ⟨_, rfl, qc⟩
            · exact ⟨_, rfl, qd⟩
            · exact ⟨_, rfl, qe⟩
            · exact ⟨_, rfl, qf⟩⟩ (by show 0 < 6; decide) (by show 6 ≤ 255; decide) (by rw [Tick.enc_length]; simp only [List.map_cons, List.map_nil, List.sum_cons, List.sum_nil, Tick.be8_length]; have := hc.2; have := hs.2; omega)) ?_)
          rintro vv w MX hS hG9 hvv
          obtain ⟨MC, hMC⟩ : ∃ MC, MC = MX := ⟨_, rfl⟩
          subst hMC
          have hGC := hGC.trans hG9
          have hK0 : On M1 w := (hS.known hGC.1).on
          refine ⟨hK0, ?_⟩
          refine AL.take 20 rfl (by kernel_rfl) (by kernel_rfl) (by kernel_rfl) rfl rfl rfl hK0 (fun w hK => Res.assign rfl rfl) ?_
          refine AL.take 21 rfl (by kernel_rfl) (by kernel_rfl) (by kernel_rfl) rfl rfl rfl hK0 (fun w hK => Res.assign rfl rfl) ?_
          refine AL.done (by kernel_rfl) (Thn_n ?_)
          exact ⟨_, _, ⟨rfl, rfl, trivial⟩, hGC, hS, hvv⟩
        · refine Stp.callG (args := [_]) rfl rfl rfl cal77 rfl rfl hS (int8_ok u _ _ hS.on (by omega)) ?_
          rintro yqd w MX hS hG9 qd
          obtain ⟨qda, qdc, rfl, -, -, -, -⟩ := id qd
          obtain ⟨MC, hMC⟩ : ∃ MC, MC = MX := ⟨_, rfl⟩
          subst hMC
          have hGC := hGC.trans hG9
          try (have qa := qa.mono hG9.1)
          try (have qb := qb.mono hG9.1)
          try (have qc := qc.mono hG9.1)
          try (have qe := qe.mono hG9.1)
          try (have qf := qf.mono hG9.1)
          have hK0 : On M1 w := (hS.known hGC.1).on
          refine ⟨hK0, ?_⟩
          refine AL.two 5 14 rfl rfl (by kernel_rfl) rfl rfl ?_ ?_
          · refine Stp.s2b (l := s) rfl rfl underlying9 underlying30 underlying5 (by omega) hS rfl rfl ?_
            intro w yqb MX hS hG9 qb
            obtain ⟨qba, qbc, rfl, -, -, -, -⟩ := id qb
            obtain ⟨MC, hMC⟩ : ∃ MC, MC = MX := ⟨_, rfl⟩
            subst hMC
            have hGC := hGC.trans hG9
            try (have qa := qa.mono hG9.1)
            try (have qc := qc.mono hG9.1)
            try (have qd := qd.mono hG9.1)
            try (have qe := qe.mono hG9.1)
            try (have qf := qf.mono hG9.1)
            have hK0 : On M1 w := (hS.known hGC.1).on
            refine ⟨hK0, ?_⟩
            refine AL.one 14 rfl (by kernel_rfl) rfl (Stp.callG (args := [_]) rfl rfl rfl cal77 rfl rfl hS (int8_ok e _ _ hS.on (by omega)) ?_)
            rintro yqe w MX hS hG9 qe
            obtain ⟨qea, qec, rfl, -, -, -, -⟩ := id qe
            obtain ⟨MC, hMC⟩ : ∃ MC, MC = MX := ⟨_, rfl⟩
            subst hMC
            have hGC := hGC.trans hG9
            try (have qa := qa.mono hG9.1)
            try (have qb := qb.mono hG9.1)
            try (have qc := qc.mono hG9.1)
            try (have qd := qd.mono hG9.1)
            try (have qf := qf.mono hG9.1)
            have hK0 : On M1 w := (hS.known hGC.1).on
            refine ⟨hK0, ?_⟩
            refine AL.one 17 rfl (by kernel_rfl) rfl (Stp.callG (args := [_]) rfl rfl rfl cal77 rfl rfl hS (int8_ok fl _ _ hS.on (by omega)) ?_)
            rintro yqf w MX hS hG9 qf
            obtain ⟨qfa, qfc, rfl, -, -, -, -⟩ := id qf
            obtain ⟨MC, hMC⟩ : ∃ MC, MC = MX := ⟨_, rfl⟩
            subst hMC
            have hGC := hGC.trans hG9
            try (have qa := qa.mono hG9.1)
            try (have qb := qb.mono hG9.1)
            try (have qc := qc.mono hG9.1)
            try (have qd := qd.mono hG9.1)
            try (have qe := qe.mono hG9.1)
            have hK0 : On M1 w := (hS.known hGC.1).on
            refine ⟨hK0, ?_⟩
            refine AL.one 18 rfl (by kernel_rfl) rfl (Stp.lit (vals := [(0, .slice qaa (c).length qac), (1, .slice qba (s).length qbc), (2, .slice qca (Tick.be8 f).length qcc), (3, .slice qda (Tick.be8 u).length qdc), (4, .slice qea (Tick.be8 e).length qec), (5, .slice qfa (Tick.be8 fl).length qfc)]) (cs := #[.slice qaa (c).length qac, .slice qba (s).length qbc, .slice qca (Tick.be8 f).length qcc, .slice qda (Tick.be8 u).length qdc, .slice qea (Tick.be8 e).length qec, .slice qfa (Tick.be8 fl).length qfc]) (e := 30) rfl rfl (fun _ => by kernel_rfl) rfl rfl hS ?_)
            intro b29 w hb29 hS hkp hnw
            have hF := hS.freezeG (i := 0) rfl hb29
            obtain ⟨MC, hG9, hlt, hS⟩ : ∃ M9, Grow w0.heap.size MC M9 ∧ M9 b29 = some (.cells #[.slice qaa (c).length qac, .slice qba (s).length qbc, .slice qca (Tick.be8 f).length qcc, .slice qda (Tick.be8 u).length qdc, .slice qea (Tick.be8 e).length qec, .slice qfa (Tick.be8 fl).length qfc] 30 (0, 0)) ∧ St w0 w M9 [] := ⟨_, hF.2, PH.add_self _ _ _, hF.1⟩
            have hGC := hGC.trans hG9
            have qa := qa.mono hG9.1
            have qb := qb.mono hG9.1
            have qc := qc.mono hG9.1
            have qd := qd.mono hG9.1
            have qe := qe.mono hG9.1
            have qf := qf.mono hG9.1
            have hK0 : On M1 w := (hS.known hGC.1).on
            refine ⟨hK0, ?_⟩
            refine AL.one 19 rfl (by kernel_rfl) rfl (Stp.callG (args := [_]) rfl rfl rfl cal76 rfl rfl hS (value_ok b29 0 6 [.slice qaa (c).length qac, .slice qba (s).length qbc, .slice qca (Tick.be8 f).length qcc, .slice qda (Tick.be8 u).length qdc, .slice qea (Tick.be8 e).length qec, .slice qfa (Tick.be8 fl).length qfc] [c, s, Tick.be8 f, Tick.be8 u, Tick.be8 e, Tick.be8 fl] _ _ hS.on (fun j x hj => by rw [Nat.zero_add]; exact PH.cell_of hlt (by rw [List.getElem?_toArray]; exact hj)) ⟨rfl, fun j hj => by
              rcases (by have hj' : j < 6 := hj; omega : j = 0 ∨ j = 1 ∨ j = 2 ∨ j = 3 ∨ j = 4 ∨ j = 5) with rfl | rfl | rfl | rfl | rfl | rfl
              · exact ⟨_, rfl, qa⟩
              · exact ⟨_, rfl, qb⟩
              · exact ⟨_, rfl, qc⟩
              · exact ⟨_, rfl, qd⟩
              · exact ⟨_, rfl, qe⟩
              · exact ⟨_, rfl, qf⟩⟩ (by show 0 < 6; decide) (by show 6 ≤ 255; decide) (by rw [Tick.enc_length]; simp only [List.map_cons, List.map_nil, List.sum_cons, List.sum_nil, Tick.be8_length]; have := hc.2; have := hs.2; omega)) ?_)
            rintro vv w MX hS hG9 hvv
            obtain ⟨MC, hMC⟩ : ∃ MC, MC = MX := ⟨_, rfl⟩
            subst hMC
            have hGC := hGC.trans hG9
            have hK0 : On M1 w := (hS.known hGC.1).on
            refine ⟨hK0, ?_⟩
            refine AL.take 20 rfl (by kernel_rfl) (by kernel_rfl) (by kernel_rfl) rfl rfl rfl hK0 (fun w hK => Res.assign rfl rfl) ?_
            refine AL.take 21 rfl (by kernel_rfl) (by kernel_rfl) (by kernel_rfl) rfl rfl rfl hK0 (fun w hK => Res.assign rfl rfl) ?_
            refine AL.done (by kernel_rfl) (Thn_n ?_)
            exact ⟨_, _, ⟨rfl, rfl, trivial⟩, hGC, hS, hvv⟩
          · refine Stp.callG (args := [_]) rfl rfl rfl cal77 rfl rfl hS (int8_ok e _ _ hS.on (by omega)) ?_
            rintro yqe w MX hS hG9 qe
            obtain ⟨qea, qec, rfl, -, -, -, -⟩ := id qe
            obtain ⟨MC, hMC⟩ : ∃ MC, MC = MX := ⟨_, rfl⟩
            subst hMC
            have hGC := hGC.trans hG9
            try (have qa := qa.mono hG9.1)
            try (have qb := qb.mono hG9.1)
            try (have qc := qc.mono hG9.1)
            try (have qd := qd.mono hG9.1)
            try (have qf := qf.mono hG9.1)
            have hK0 : On M1 w := (hS.known hGC.1).on
            refine ⟨hK0, ?_⟩
            refine AL.two 5 17 rfl rfl (by kernel_rfl) rfl rfl ?_ ?_
            · refine Stp.s2b (l := s) rfl rfl underlying9 underlying30 underlying5 (by omega) hS rfl rfl ?_
              intro w yqb MX hS hG9 qb
              obtain ⟨qba, qbc, rfl, -, -, -, -⟩ := id qb
              obtain ⟨MC, hMC⟩ : ∃ MC, MC = MX := ⟨_, rfl⟩
              subst hMC
              have hGC := hGC.trans hG9
              try (have qa := qa.mono hG9.1)
              try (have qc := qc.mono hG9.1)
              try (have qd := qd.mono hG9.1)
              try (have qe := qe.mono hG9.1)
              try (have qf := qf.mono hG9.1)
              have hK0 : On M1 w := (hS.known hGC.1).on
              refine ⟨hK0, ?_⟩
              refine AL.one 17 rfl (by kernel_rfl) rfl (Stp.callG (args := [_]) rfl rfl rfl cal77 rfl rfl hS (int8_ok fl _ _ hS.on (by omega)) ?_)
              rintro yqf w MX hS hG9 qf
              obtain ⟨qfa, qfc, rfl, -, -, -, -⟩ := id qf
              obtain ⟨MC, hMC⟩ : ∃ MC, MC = MX := ⟨_, rfl⟩
              subst hMC
              have hGC := hGC.trans hG9
              try (have qa := qa.mono hG9.1)
              try (have qb := qb.mono hG9.1)
              try (have qc := qc.mono hG9.1)
              try (have qd := qd.mono hG9.1)
              try (have qe := qe.mono hG9.1)
              have hK0 : On M1 w := (hS.known hGC.1).on
              refine ⟨hK0, ?_⟩
              refine AL.one 18 rfl (by kernel_rfl) rfl (Stp.lit (vals := [(0, .slice qaa (c).length qac), (1, .slice qba (s).length qbc), (2, .slice qca (Tick.be8 f).length qcc), (3, .slice qda (Tick.be8 u).length qdc), (4, .slice qea (Tick.be8 e).length qec), (5, .slice qfa (Tick.be8 fl).length qfc)]) (cs := #[.slice qaa (c).length qac, .slice qba (s).length qbc, .slice qca (Tick.be8 f).length qcc, .slice qda (Tick.be8 u).length qdc, .slice qea (Tick.be8 e).length qec, .slice qfa (Tick.be8 fl).length qfc]) (e := 30) rfl rfl (fun _ => by kernel_rfl) rfl rfl hS ?_)
              intro b29 w hb29 hS hkp hnw
              have hF := hS.freezeG (i := 0) rfl hb29
              obtain ⟨MC, hG9, hlt, hS⟩ : ∃ M9, Grow w0.heap.size MC M9 ∧ M9 b29 = some (.cells #[.slice qaa (c).length qac, .slice qba (s).length qbc, .slice qca (Tick.be8 f).length qcc, .slice qda (Tick.be8 u).length qdc, .slice qea (Tick.be8 e).length qec, .slice qfa (Tick.be8 fl).length qfc] 30 (0, 0)) ∧ St w0 w M9 [] := ⟨_, hF.2, PH.add_self _ _ _, hF.1⟩
              have hGC := hGC.trans hG9
              have qa := qa.mono hG9.1
              have qb := qb.mono hG9.1
              have qc := qc.mono hG9.1
              have qd := qd.mono hG9.1
              have qe := qe.mono hG9.1
              have qf := qf.mono hG9.1
              have hK0 : On M1 w := (hS.known hGC.1).on
              refine ⟨hK0, ?_⟩
              refine AL.one 19 rfl (by kernel_rfl) rfl (Stp.callG (args := [_]) rfl rfl rfl cal76 rfl rfl hS (value_ok b29 0 6 [.slice qaa (c).length qac, .slice qba (s).length qbc, .slice qca (Tick.be8 f).length qcc, .slice qda (Tick.be8 u).length qdc, .slice qea (Tick.be8 e).length qec, .slice qfa (Tick.be8 fl).length qfc] [c, s, Tick.be8 f, Tick.be8 u, Tick.be8 e, Tick.be8 fl] _ _ hS.on (fun j x hj => by rw [Nat.zero_add]; exact PH.cell_of hlt (by rw [List.getElem?_toArray]; exact hj)) ⟨rfl, fun j hj => by
                rcases (by have hj' : j < 6 := hj; omega : j = 0 ∨ j = 1 ∨ j = 2 ∨ j = 3 ∨ j = 4 ∨ j = 5) with rfl | rfl | rfl | rfl | rfl | rfl
                · exact ⟨_, rfl, qa⟩
                · exact ⟨_, rfl, qb⟩
                · exact ⟨_, rfl, qc⟩
                · exact ⟨_, rfl, qd⟩
                · exact ⟨_, rfl, qe⟩
                · exact ⟨_, rfl, qf⟩⟩ (by show 0 < 6; decide) (by show 6 ≤ 255; decide) (by rw [Tick.enc_length]; simp only [List.map_cons, List.map_nil, List.sum_cons, List.sum_nil, Tick.be8_length]; have := hc.2; have := hs.2; omega)) ?_)
              rintro vv w MX hS hG9 hvv
              obtain ⟨MC, hMC⟩ : ∃ MC, MC = MX := ⟨_, rfl⟩
              subst hMC
              have hGC := hGC.trans hG9
              have hK0 : On M1 w := (hS.known hGC.1).on
              refine ⟨hK0, ?_⟩
              refine AL.take 20 rfl (by kernel_rfl) (by kernel_rfl) (by kernel_rfl) rfl rfl rfl hK0 (fun w hK => Res.assign rfl rfl) ?_
              refine AL.take 21 rfl (by kernel_rfl) (by kernel_rfl) (by kernel_rfl) rfl rfl rfl hK0 (fun w hK => Res.assign rfl rfl) ?_
              refine AL.done (by kernel_rfl) (Thn_n ?_)
              exact ⟨_, _, ⟨rfl, rfl, trivial⟩, hGC, hS, hvv⟩
            · refine Stp.callG (args := [_]) rfl rfl rfl cal77 rfl rfl hS (int8_ok fl _ _ hS.on (by omega)) ?_
              rintro yqf w MX hS hG9 qf
              obtain ⟨qfa, qfc, rfl, -, -, -, -⟩ := id qf
              obtain ⟨MC, hMC⟩ : ∃ MC, MC = MX := ⟨_, rfl⟩
              subst hMC
              have hGC := hGC.trans hG9
              try (have qa := qa.mono hG9.1)
              try (have qb := qb.mono hG9.1)
              try (have qc := qc.mono hG9.1)
              try (have qd := qd.mono hG9.1)
              try (have qe := qe.mono hG9.1)
              have hK0 : On M1 w := (hS.known hGC.1).on
              refine ⟨hK0, ?_⟩
              refine AL.one 5 rfl (by kernel_rfl) rfl (Stp.s2b (l := s) rfl rfl underlying9 underlying30 underlying5 (by omega) hS rfl rfl ?_)
              intro w yqb MX hS hG9 qb
              obtain ⟨qba, qbc, rfl, -, -, -, -⟩ := id qb
              obtain ⟨MC, hMC⟩ : ∃ MC, MC = MX := ⟨_, rfl⟩
              subst hMC
              have hGC := hGC.trans hG9
              try (have qa := qa.mono hG9.1)
              try (have qc := qc.mono hG9.1)
              try (have qd := qd.mono hG9.1)
              try (have qe := qe.mono hG9.1)
              try (have qf := qf.mono hG9.1)
              have hK0 : On M1 w := (hS.known hGC.1).on
              refine ⟨hK0, ?_⟩
              refine AL.one 18 rfl (by kernel_rfl) rfl (Stp.lit (vals := [(0, .slice qaa (c).length qac), (1, .slice qba (s).length qbc), (2, .slice qca (Tick.be8 f).length qcc), (3, .slice qda (Tick.be8 u).length qdc), (4, .slice qea (Tick.be8 e).length qec), (5, .slice qfa (Tick.be8 fl).length qfc)]) (cs := #[.slice qaa (c).length qac, .slice qba (s).length qbc, .slice qca (Tick.be8 f).length qcc, .slice qda (Tick.be8 u).length qdc, .slice qea (Tick.be8 e).length qec, .slice qfa (Tick.be8 fl).length qfc]) (e := 30) rfl rfl (fun _ => by kernel_rfl) rfl rfl hS ?_)
              intro b29 w hb29 hS hkp hnw
              have hF := hS.freezeG (i := 0) rfl hb29
              obtain ⟨MC, hG9, hlt, hS⟩ : ∃ M9, Grow w0.heap.size MC M9 ∧ M9 b29 = some (.cells #[.slice qaa (c).length qac, .slice qba (s).length qbc, .slice qca (Tick.be8 f).length qcc, .slice qda (Tick.be8 u).length qdc, .slice qea (Tick.be8 e).length qec, .slice qfa (Tick.be8 fl).length qfc] 30 (0, 0)) ∧ St w0 w M9 [] := ⟨_, hF.2, PH.add_self _ _ _, hF.1⟩
              have hGC := hGC.trans hG9
              have qa := qa.mono hG9.1
              have qb := qb.mono hG9.1
              have qc := qc.mono hG9.1
              have qd := qd.mono hG9.1
              have qe := qe.mono hG9.1
              have qf := qf.mono hG9.1
              have hK0 : On M1 w := (hS.known hGC.1).on
              refine ⟨hK0, ?_⟩
              refine AL.one 19 rfl (by kernel_rfl) rfl (Stp.callG (args := [_]) rfl rfl rfl cal76 rfl rfl hS (value_ok b29 0 6 [.slice qaa (c).length qac, .slice qba (s).length qbc, .slice qca (Tick.be8 f).length qcc, .slice qda (Tick.be8 u).length qdc, .slice qea (Tick.be8 e).length qec, .slice qfa (Tick.be8 fl).length qfc] [c, s, Tick.be8 f, Tick.be8 u, Tick.be8 e, Tick.be8 fl] _ _ hS.on (fun j x hj => by rw [Nat.zero_add]; exact PH.cell_of hlt (by rw [List.getElem?_toArray]; exact hj)) ⟨rfl, fun j hj => by
                rcases (by have hj' : j < 6 := hj; omega : j = 0 ∨ j = 1 ∨ j = 2 ∨ j = 3 ∨ j = 4 ∨ j = 5) with rfl | rfl | rfl | rfl | rfl | rfl
                · exact ⟨_, rfl, qa⟩
                · exact ⟨_, rfl, qb⟩
                · exact ⟨_, rfl, qc⟩
                · exact ⟨_, rfl, qd⟩
                · exact ⟨_, rfl, qe⟩
                · exact ⟨_, rfl, qf⟩⟩ (by show 0 < 6; decide) (by show 6 ≤ 255; decide) (by rw [Tick.enc_length]; simp only [List.map_cons, List.map_nil, List.sum_cons, List.sum_nil, Tick.be8_length]; have := hc.2; have := hs.2; omega)) ?_)
              rintro vv w MX hS hG9 hvv
              obtain ⟨MC, hMC⟩ : ∃ MC, MC = MX := ⟨_, rfl⟩
              subst hMC
              have hGC := hGC.trans hG9
              have hK0 : On M1 w := (hS.known hGC.1).on
              refine ⟨hK0, ?_⟩
              refine AL.take 20 rfl (by kernel_rfl) (by kernel_rfl) (by kernel_rfl) rfl rfl rfl hK0 (fun w hK => Res.assign rfl rfl) ?_
              refine AL.take 21 rfl (by kernel_rfl) (by kernel_rfl) (by kernel_rfl) rfl rfl rfl hK0 (fun w hK => Res.assign rfl rfl) ?_
              refine AL.done (by kernel_rfl) (Thn_n ?_)
              exact ⟨_, _, ⟨rfl, rfl, trivial⟩, hGC, hS, hvv⟩
      · refine Stp.s2b (l := s) rfl rfl underlying9 underlying30 underlying5 (by omega) hS rfl rfl ?_
        intro w yqb MX hS hG9 qb
        obtain ⟨qba, qbc, rfl, -, -, -, -⟩ := id qb
        obtain ⟨MC, hMC⟩ : ∃ MC, MC = MX := ⟨_, rfl⟩
        subst hMC
        have hGC := hGC.trans hG9
        try (have qa := qa.mono hG9.1)
        try (have qc := qc.mono hG9.1)
        try (have qd := qd.mono hG9.1)
        try (have qe := qe.mono hG9.1)
        try (have qf := qf.mono hG9.1)
        have hK0 : On M1 w := (hS.known hGC.1).on
        refine ⟨hK0, ?_⟩
        refine AL.two 2 11 rfl rfl (by kernel_rfl) rfl rfl ?_ ?_
        · refine Stp.s2b (l := c) rfl rfl underlying9 underlying30 underlying5 (by omega) hS rfl rfl ?_
          intro w yqa MX hS hG9 qa
          obtain ⟨qaa, qac, rfl, -, -, -, -⟩ := id qa
          obtain ⟨MC, hMC⟩ : ∃ MC, MC = MX := ⟨_, rfl⟩
          subst hMC
          have hGC := hGC.trans hG9
          try (have qb := qb.mono hG9.1)
          try (have qc := qc.mono hG9.1)
          try (have qd := qd.mono hG9.1)
          try (have qe := qe.mono hG9.1)
          try (have qf := qf.mono hG9.1)
          have hK0 : On M1 w := (hS.known hGC.1).on
          refine ⟨hK0, ?_⟩
          refine AL.one 11 rfl (by kernel_rfl) rfl (Stp.callG (args := [_]) rfl rfl rfl cal77 rfl rfl hS (int8_ok u _ _ hS.on (by omega)) ?_)
          rintro yqd w MX hS hG9 qd
          obtain ⟨qda, qdc, rfl, -, -, -, -⟩ := id qd
          obtain ⟨MC, hMC⟩ : ∃ MC, MC = MX := ⟨_, rfl⟩
          subst hMC
          have hGC := hGC.trans hG9
          try (have qa := qa.mono hG9.1)
          try (have qb := qb.mono hG9.1)
          try (have qc := qc.mono hG9.1)
          try (have qe := qe.mono hG9.1)
          try (have qf := qf.mono hG9.1)
          have hK0 : On M1 w := (hS.known hGC.1).on
          refine ⟨hK0, ?_⟩
          refine AL.one 14 rfl (by kernel_rfl) rfl (Stp.callG (args := [_]) rfl rfl rfl cal77 rfl rfl hS (int8_ok e _ _ hS.on (by omega)) ?_)
          rintro yqe w MX hS hG9 qe
          obtain ⟨qea, qec, rfl, -, -, -, -⟩ := id qe
          obtain ⟨MC, hMC⟩ : ∃ MC, MC = MX := ⟨_, rfl⟩
          subst hMC
          have hGC := hGC.trans hG9
          try (have qa := qa.mono hG9.1)
          try (have qb := qb.mono hG9.1)
          try (have qc := qc.mono hG9.1)
          try (have qd := qd.mono hG9.1)
          try (have qf := qf.mono hG9.1)
          have hK0 : On M1 w := (hS.known hGC.1).on
          refine ⟨hK0, ?_⟩
          refine AL.one 17 rfl (by kernel_rfl) rfl (Stp.callG (args := [_]) rfl rfl rfl cal77 rfl rfl hS (int8_ok fl _ _ hS.on (by omega)) ?_)
          rintro yqf w MX hS hG9 qf
          obtain ⟨qfa, qfc, rfl, -, -, -, -⟩ := id qf
          obtain ⟨MC, hMC⟩ : ∃ MC, MC = MX := ⟨_, rfl⟩
          subst hMC
          have hGC := hGC.trans hG9
          try (have qa := qa.mono hG9.1)
          try (have qb := qb.mono hG9.1)
          try (have qc := qc.mono hG9.1)
          try (have qd := qd.mono hG9.1)
          try (have qe := qe.mono hG9.1)
          have hK0 : On M1 w := (hS.known hGC.1).on
          refine ⟨hK0, ?_⟩
          refine AL.one 18 rfl (by kernel_rfl) rfl (Stp.lit (vals := [(0, .slice qaa (c).length qac), (1, .slice qba (s).length qbc), (2, .slice qca (Tick.be8 f).length qcc), (3, .slice qda (Tick.be8 u).length qdc), (4, .slice qea (Tick.be8 e).length qec), (5, .slice qfa (Tick.be8 fl).length qfc)]) (cs := #[.slice qaa (c).length qac, .slice qba (s).length qbc, .slice qca (Tick.be8 f).length qcc, .slice qda (Tick.be8 u).length qdc, .slice qea (Tick.be8 e).length qec, .slice qfa (Tick.be8 fl).length qfc]) (e := 30) rfl rfl (fun _ => by kernel_rfl) rfl rfl hS ?_)
          intro b29 w hb29 hS hkp hnw
          have hF := hS.freezeG (i := 0) rfl hb29
          obtain ⟨MC, hG9, hlt, hS⟩ : ∃ M9, Grow w0.heap.size MC M9 ∧ M9 b29 = some (.cells #[.slice qaa (c).length qac, .slice qba (s).length qbc, .slice qca (Tick.be8 f).length qcc, .slice qda (Tick.be8 u).length qdc, .slice qea (Tick.be8 e).length qec, .slice qfa (Tick.be8 fl).length qfc] 30 (0, 0)) ∧ St w0 w M9 [] := ⟨_, hF.2, PH.add_self _ _ _, hF.1⟩
          have hGC := hGC.trans hG9
          have qa := qa.mono hG9.1
          have qb := qb.mono hG9.1
          have qc := qc.mono hG9.1
          have qd := qd.mono hG9.1
          have qe := qe.mono hG9.1
          have qf := qf.mono hG9.1
          have hK0 : On M1 w := (hS.known hGC.1).on
          refine ⟨hK0, ?_⟩
          refine AL.one 19 rfl (by kernel_rfl) rfl (Stp.callG (args := [_]) rfl rfl rfl cal76 rfl rfl hS (value_ok b29 0 6 [.slice qaa (c).length qac, .slice qba (s).length qbc, .slice qca (Tick.be8 f).length qcc, .slice qda (Tick.be8 u).length qdc, .slice qea (Tick.be8 e).length qec, .slice qfa (Tick.be8 fl).length qfc] [c, s, Tick.be8 f, Tick.be8 u, Tick.be8 e, Tick.be8 fl] _ _ hS.on (fun j x hj => by rw [Nat.zero_add]; exact PH.cell_of hlt (by rw [List.getElem?_toArray]; exact hj)) ⟨rfl, fun j hj => by
            rcases (by have hj' : j < 6 := hj; omega : j = 0 ∨ j = 1 ∨ j = 2 ∨ j = 3 ∨ j = 4 ∨ j = 5) with rfl | rfl | rfl | rfl | rfl | rfl
            · exact ⟨_, rfl, qa⟩
            · exact ⟨_, rfl, qb⟩
            · exact ⟨_, rfl, qc⟩
            · exact ⟨_, rfl, qd⟩
            · exact ⟨_, rfl, qe⟩
            · exact ⟨_, rfl, qf⟩⟩ (by show 0 < 6; decide) (by show 6 ≤ 255; decide) (by rw [Tick.enc_length]; simp only [List.map_cons, List.map_nil, List.sum_cons, List.sum_nil, Tick.be8_length]; have := hc.2; have := hs.2; omega)) ?_)
          rintro vv w MX hS hG9 hvv
          obtain ⟨MC, hMC⟩ : ∃ MC, MC = MX := ⟨_, rfl⟩
          subst hMC
          have hGC := hGC.trans hG9
          have hK0 : On M1 w := (hS.known hGC.1).on
          refine ⟨hK0, ?_⟩
          refine AL.take 20 rfl (by kernel_rfl) (by kernel_rfl) (by kernel_rfl) rfl rfl rfl hK0 (fun w hK => Res.assign rfl rfl) ?_
          refine AL.take 21 rfl (by kernel_rfl) (by kernel_rfl) (by kernel_rfl) rfl rfl rfl hK0 (fun w hK => Res.assign rfl rfl) ?_
          refine AL.done (by kernel_rfl) (Thn_n ?_)
          exact ⟨_, _, ⟨rfl, rfl, trivial⟩, hGC, hS, hvv⟩
        · refine Stp.callG (args := [_]) rfl rfl rfl cal77 rfl rfl hS (int8_ok u _ _ hS.on (by omega)) ?_
          rintro yqd w MX hS hG9 qd
          obtain ⟨qda, qdc, rfl, -, -, -, -⟩ := id qd
          obtain ⟨MC, hMC⟩ : ∃ MC, MC = MX := ⟨_, rfl⟩
          subst hMC
          have hGC := hGC.trans hG9
          try (have qa := qa.mono hG9.1)
          try (have qb := qb.mono hG9.1)
          try (have qc := qc.mono hG9.1)
          try (have qe := qe.mono hG9.1)
          try (have qf := qf.mono hG9.1)
          have hK0 : On M1 w := (hS.known hGC.1).on
          refine ⟨hK0, ?_⟩
          refine AL.two 2 14 rfl rfl (by kernel_rfl) rfl rfl ?_ ?_
          · refine Stp.s2b (l := c) rfl rfl underlying9 underlying30 underlying5 (by omega) hS rfl rfl ?_
            intro w yqa MX hS hG9 qa
            obtain ⟨qaa, qac, rfl, -, -, -, -⟩ := id qa
            obtain ⟨MC, hMC⟩ : ∃ MC, MC = MX := ⟨_, rfl⟩
            subst hMC
            have hGC := hGC.trans hG9
            try (have qb := qb.mono hG9.1)
            try (have qc := qc.mono hG9.1)
            try (have qd := qd.mono hG9.1)
            try (have qe := qe.mono hG9.1)
            try (have qf := qf.mono hG9.1)
            have hK0 : On M1 w := (hS.known hGC.1).on
            refine ⟨hK0, ?_⟩
            refine AL.one 14 rfl (by kernel_rfl) rfl (Stp.callG (args := [_]) rfl rfl rfl cal77 rfl rfl hS (int8_ok e _ _ hS.on (by omega)) ?_)
            rintro yqe w MX hS hG9 qe
            obtain ⟨qea, qec, rfl, -, -, -, -⟩ := id qe
            obtain ⟨MC, hMC⟩ : ∃ MC, MC = MX := ⟨_, rfl⟩
            subst hMC
            have hGC := hGC.trans hG9
            try (have qa := qa.mono hG9.1)
            try (have qb := qb.mono hG9.1)
            try (have qc := qc.mono hG9.1)
            try (have qd := qd.mono hG9.1)
            try (have qf := qf.mono hG9.1)
            have hK0 : On M1 w := (hS.known hGC.1).on
            refine ⟨hK0, ?_⟩
            refine AL.one 17 rfl (by kernel_rfl) rfl (Stp.callG (args := [_]) rfl rfl rfl cal77 rfl rfl hS (int8_ok fl _ _ hS.on (by omega)) ?_)
            rintro yqf w MX hS hG9 qf
            obtain ⟨qfa, qfc, rfl, -, -, -, -⟩ := id qf
            obtain ⟨MC, hMC⟩ : ∃ MC, MC = MX := ⟨_, rfl⟩
            subst hMC
            have hGC := hGC.trans hG9
            try (have qa := qa.mono hG9.1)
            try (have qb := qb.mono hG9.1)
            try (have qc := qc.mono hG9.1)
            try (have qd := qd.mono hG9.1)
            try (have qe := qe.mono hG9.1)
            have hK0 : On M1 w := (hS.known hGC.1).on
            refine ⟨hK0, ?_⟩
            refine AL.one 18 rfl (by kernel_rfl) rfl (Stp.lit (vals := [(0, .slice qaa (c).length qac), (1, .slice qba (s).length qbc), (2, .slice qca (Tick.be8 f).length qcc), (3, .slice qda (Tick.be8 u).length qdc), (4, .slice qea (Tick.be8 e).length qec), (5, .slice qfa (Tick.be8 fl).length qfc)]) (cs := #[.slice qaa (c).length qac, .slice qba (s).length qbc, .slice qca (Tick.be8 f).length qcc, .slice qda (Tick.be8 u).length qdc, .slice qea (Tick.be8 e).length qec, .slice qfa (Tick.be8 fl).length qfc]) (e := 30) rfl rfl (fun _ => by kernel_rfl) rfl rfl hS ?_)
            intro b29 w hb29 hS hkp hnw
            have hF := hS.freezeG (i := 0) rfl hb29
            obtain ⟨MC, hG9, hlt, hS⟩ : ∃ M9, Grow w0.heap.size MC M9 ∧ M9 b29 = some (.cells #[.slice qaa (c).length qac, .slice qba (s).length qbc, .slice qca (Tick.be8 f).length qcc, .slice qda (Tick.be8 u).length qdc, .slice qea (Tick.be8 e).length qec, .slice qfa (Tick.be8 fl).length qfc] 30 (0, 0)) ∧ St w0 w M9 [] := ⟨_, hF.2, PH.add_self _ _ _, hF.1⟩
            have hGC := hGC.trans hG9
            have qa := qa.mono hG9.1
            have qb := qb.mono hG9.1
            have qc := qc.mono hG9.1
            have qd := qd.mono hG9.1
            have qe := qe.mono hG9.1
            have qf := qf.mono hG9.1
            have hK0 : On M1 w := (hS.known hGC.1).on
            refine ⟨hK0, ?_⟩
            refine AL.one 19 rfl (by kernel_rfl) rfl (Stp.callG (args := [_]) rfl rfl rfl cal76 rfl rfl hS (value_ok b29 0 6 [.slice qaa (c).length qac, .slice qba (s).length qbc, .slice qca (Tick.be8 f).length qcc, .slice qda (Tick.be8 u).length qdc, .slice qea (Tick.be8 e).length qec, .slice qfa (Tick.be8 fl).length qfc] [c, s, Tick.be8 f, Tick.be8 u, Tick.be8 e, Tick.be8 fl] _ _ hS.on (fun j x hj => by rw [Nat.zero_add]; exact PH.cell_of hlt (by rw [List.getElem?_toArray]; exact hj)) ⟨rfl, fun j hj => by
              rcases (by have hj' : j < 6 := hj; omega : j = 0 ∨ j = 1 ∨ j = 2 ∨ j = 3 ∨ j = 4 ∨ j = 5) with rfl | rfl | rfl | rfl | rfl | rfl
              · exact ⟨_, rfl, qa⟩
              · exact ⟨_, rfl, qb⟩
              · exact ⟨_, rfl, qc⟩
              · exact ⟨_, rfl, qd⟩
              · exact ⟨_, rfl, qe⟩
              · exact ⟨_, rfl, qf⟩⟩ (by show 0 < 6; decide) (by show 6 ≤ 255; decide) (by rw [Tick.enc_length]; simp only [List.map_cons, List.map_nil, List.sum_cons, List.sum_nil, Tick.be8_length]; have := hc.2; have := hs.2; omega)) ?_)
            rintro vv w MX hS hG9 hvv
            obtain ⟨MC, hMC⟩ : ∃ MC, MC = MX := ⟨_, rfl⟩
            subst hMC
            have hGC := hGC.trans hG9
            have hK0 : On M1 w := (hS.known hGC.1).on
            refine ⟨hK0, ?_⟩
            refine AL.take 20 rfl (by kernel_rfl) (by kernel_rfl) (by kernel_rfl) rfl rfl rfl hK0 (fun w hK => Res.assign rfl rfl) ?_
            refine AL.take 21 rfl (by kernel_rfl) (by kernel_rfl) (by kernel_rfl) rfl rfl rfl hK0 (fun w hK => Res.assign rfl rfl) ?_
            refine AL.done (by kernel_rfl) (Thn_n ?_)
            exact ⟨_, _, ⟨rfl, rfl, trivial⟩, hGC, hS, hvv⟩
          · refine Stp.callG (args := [_]) rfl rfl rfl cal77 rfl rfl hS (int8_ok e _ _ hS.on (by omega)) ?_
            rintro yqe w MX hS hG9 qe
            obtain ⟨qea, qec, rfl, -, -, -, -⟩ := id qe
            obtain ⟨MC, hMC⟩ : ∃ MC, MC = MX := ⟨_, rfl⟩
            subst hMC
            have hGC := hGC.trans hG9
            try (have qa := qa.mono hG9.1)
            try (have qb := qb.mono hG9.1)
            try (have qc := qc.mono hG9.1)
            try (have qd := qd.mono hG9.1)
            try (have qf := qf.mono hG9.1)
            have hK0 : On M1 w := (hS.known hGC.1).on
            refine ⟨hK0, ?_⟩
            refine AL.two 2 17 rfl rfl (by kernel_rfl) rfl rfl ?_ ?_
            · refine Stp.s2b (l := c) rfl rfl underlying9 underlying30 underlying5 (by omega) hS rfl rfl ?_
              intro w yqa MX hS hG9 qa
              obtain ⟨qaa, qac, rfl, -, -, -, -⟩ := id qa
              obtain ⟨MC, hMC⟩ : ∃ MC, MC = MX := ⟨_, rfl⟩
              subst hMC
              have hGC := hGC.trans hG9
              try (have qb := qb.mono hG9.1)
              try (have qc := qc.mono hG9.1)
              try (have qd := qd.mono hG9.1)
              try (have qe := qe.mono hG9.1)
              try (have qf := qf.mono hG9.1)
              have hK0 : On M1 w := (hS.known hGC.1).on
              refine ⟨hK0, ?_⟩
              refine AL.one 17 rfl (by kernel_rfl) rfl (Stp.callG (args := [_]) rfl rfl rfl cal77 rfl rfl hS (int8_ok fl _ _ hS.on (by omega)) ?_)
              rintro yqf w MX hS hG9 qf
              obtain ⟨qfa, qfc, rfl, -, -, -, -⟩ := id qf
              obtain ⟨MC, hMC⟩ : ∃ MC, MC = MX := ⟨_, rfl⟩
              subst hMC
              have hGC := hGC.trans hG9
              try (have qa := qa.mono hG9.1)
              try (have qb := qb.mono hG9.1)
              try (have qc := qc.mono hG9.1)
              try (have qd := qd.mono hG9.1)
              try (have qe := qe.mono hG9.1)
              have hK0 : On M1 w := (hS.known hGC.1).on
              refine ⟨hK0, ?_⟩
              refine AL.one 18 rfl (by kernel_rfl) rfl (Stp.lit (vals := [(0, .slice qaa (c).length qac), (1, .slice qba (s).length qbc), (2, .slice qca (Tick.be8 f).length qcc), (3, .slice qda (Tick.be8 u).length qdc), (4, .slice qea (Tick.be8 e).length qec), (5, .slice qfa (Tick.be8 fl).length qfc)]) (cs := #[.slice qaa (c).length qac, .slice qba (s).length qbc, .slice qca (Tick.be8 f).length qcc, .slice qda (Tick.be8 u).length qdc, .slice qea (Tick.be8 e).length qec, .slice qfa (Tick.be8 fl).length qfc]) (e := 30) rfl rfl (fun _ => by kernel_rfl) rfl rfl hS ?_)
              intro b29 w hb29 hS hkp hnw
              have hF := hS.freezeG (i := 0) rfl hb29
              obtain ⟨MC, hG9, hlt, hS⟩ : ∃ M9, Grow w0.heap.size MC M9 ∧ M9 b29 = some (.cells #[.slice qaa (c).length qac, .slice qba (s).length qbc, .slice qca (Tick.be8 f).length qcc, .slice qda (Tick.be8 u).length qdc, .slice qea (Tick.be8 e).length qec, .slice qfa (Tick.be8 fl).length qfc] 30 (0, 0)) ∧ St w0 w M9 [] := ⟨_, hF.2, PH.add_self _ _ _, hF.1⟩
              have hGC := hGC.trans hG9
              have qa := qa.mono hG9.1
              have qb := qb.mono hG9.1
              have qc := qc.mono hG9.1
              have qd := qd.mono hG9.1
              have qe := qe.mono hG9.1
              have qf := qf.mono hG9.1
              have hK0 : On M1 w := (hS.known hGC.1).on
              refine ⟨hK0, ?_⟩
              refine AL.one 19 rfl (by kernel_rfl) rfl (Stp.callG (args := [_]) rfl rfl rfl cal76 rfl rfl hS (value_ok b29 0 6 [.slice qaa (c).length qac, .slice qba (s).length qbc, .slice qca (Tick.be8 f).length qcc, .slice qda (Tick.be8 u).length qdc, .slice qea (Tick.be8 e).length qec, .slice qfa (Tick.be8 fl).length qfc] [c, s, Tick.be8 f, Tick.be8 u, Tick.be8 e, Tick.be8 fl] _ _ hS.on (fun j x hj => by rw [Nat.zero_add]; exact PH.cell_of hlt (by rw [List.getElem?_toArray]; exact hj)) ⟨rfl, fun j hj => by
                rcases (by have hj' : j < 6 := hj; omega : j = 0 ∨ j = 1 ∨ j = 2 ∨ j = 3 ∨ j = 4 ∨ j = 5) with rfl | rfl | rfl | rfl | rfl | rfl
                · exact ⟨_, rfl, qa⟩
                · exact ⟨_, rfl, qb⟩
                · exact ⟨_, rfl, qc⟩
                · exact ⟨_, rfl, qd⟩
                · exact ⟨_, rfl, qe⟩
                · exact ⟨_, rfl, qf⟩⟩ (by show 0 < 6; decide) (by show 6 ≤ 255; decide) (by rw [Tick.enc_length]; simp only [List.map_cons, List.map_nil, List.sum_cons, List.sum_nil, Tick.be8_length]; have := hc.2; have := hs.2; omega)) ?_)
              rintro vv w MX hS hG9 hvv
              obtain ⟨MC, hMC⟩ : ∃ MC, MC = MX := ⟨_, rfl⟩
              subst hMC
              have hGC := hGC.trans hG9
              have hK0 : On M1 w := (hS.known hGC.1).on
              refine ⟨hK0, ?_⟩
              refine AL.take 20 rfl (by kernel_rfl) (by kernel_rfl) (by kernel_rfl) rfl rfl rfl hK0 (fun w hK => Res.assign rfl rfl) ?_
              refine AL.take 21 rfl (by kernel_rfl) (by kernel_rfl) (by kernel_rfl) rfl rfl rfl hK0 (fun w hK => Res.assign rfl rfl) ?_
              refine AL.done (by kernel_rfl) (Thn_n ?_)
              exact ⟨_, _, ⟨rfl, rfl, trivial⟩, hGC, hS, hvv⟩
            · refine Stp.callG (args := [_]) rfl rfl rfl cal77 rfl rfl hS (int8_ok fl _ _ hS.on (by omega)) ?_
              rintro yqf w MX hS hG9 qf
              obtain ⟨qfa, qfc, rfl, -, -, -, -⟩ := id qf
              obtain ⟨MC, hMC⟩ : ∃ MC, MC = MX := ⟨_, rfl⟩
              subst hMC
              have hGC := hGC.trans hG9
              try (have qa := qa.mono hG9.1)
              try (have qb := qb.mono hG9.1)
              try (have qc := qc.mono hG9.1)
              try (have qd := qd.mono hG9.1)
              try (have qe := qe.mono hG9.1)
              have hK0 : On M1 w := (hS.known hGC.1).on
              refine ⟨hK0, ?_⟩
              refine AL.one 2 rfl (by kernel_rfl) rfl (Stp.s2b (l := c) rfl rfl underlying9 underlying30 underlying5 (by omega) hS rfl rfl ?_)
              intro w yqa MX hS hG9 qa
              obtain ⟨qaa, qac, rfl, -, -, -, -⟩ := id qa
              obtain ⟨MC, hMC⟩ : ∃ MC, MC = MX := ⟨_, rfl⟩
              subst hMC
              have hGC := hGC.trans hG9
              try (have qb := qb.mono hG9.1)
              try (have qc := qc.mono hG9.1)
              try (have qd := qd.mono hG9.1)
              try (have qe := qe.mono hG9.1)
              try (have qf := qf.mono hG9.1)
              have hK0 : On M1 w := (hS.known hGC.1).on
              refine ⟨hK0, ?_⟩
              refine AL.one 18 rfl (by kernel_rfl) rfl (Stp.lit (vals := [(0, .slice qaa (c).length qac), (1, .slice qba (s).length qbc), (2, .slice qca (Tick.be8 f).length qcc), (3, .slice qda (Tick.be8 u).length qdc), (4, .slice qea (Tick.be8 e).length qec), (5, .slice qfa (Tick.be8 fl).length qfc)]) (cs := #[.slice qaa (c).length qac, .slice qba (s).length qbc, .slice qca (Tick.be8 f).length qcc, .slice qda (Tick.be8 u).length qdc, .slice qea (Tick.be8 e).length qec, .slice qfa (Tick.be8 fl).length qfc]) (e := 30) rfl rfl (fun _ => by kernel_rfl) rfl rfl hS ?_)
              intro b29 w hb29 hS hkp hnw
              have hF := hS.freezeG (i := 0) rfl hb29
              obtain ⟨MC, hG9, hlt, hS⟩ : ∃ M9, Grow w0.heap.size MC M9 ∧ M9 b29 = some (.cells #[.slice qaa (c).length qac, .slice qba (s).length qbc, .slice qca (Tick.be8 f).length qcc, .slice qda (Tick.be8 u).length qdc, .slice qea (Tick.be8 e).length qec, .slice qfa (Tick.be8 fl).length qfc] 30 (0, 0)) ∧ St w0 w M9 [] := ⟨_, hF.2, PH.add_self _ _ _, hF.1⟩
              have hGC := hGC.trans hG9
              have qa := qa.mono hG9.1
              have qb := qb.mono hG9.1
              have qc := qc.mono hG9.1
              have qd := qd.mono hG9.1
              have qe := qe.mono hG9.1
              have qf := qf.mono hG9.1
              have hK0 : On M1 w := (hS.known hGC.1).on
              refine ⟨hK0, ?_⟩
              refine AL.one 19 rfl (by kernel_rfl) rfl (Stp.callG (args := [_]) rfl rfl rfl cal76 rfl rfl hS (value_ok b29 0 6 [.slice qaa (c).length qac, .slice qba (s).length qbc, .slice qca (Tick.be8 f).length qcc, .slice qda (Tick.be8 u).length qdc, .slice qea (Tick.be8 e).length qec, .slice qfa (Tick.be8 fl).length qfc] [c, s, Tick.be8 f, Tick.be8 u, Tick.be8 e, Tick.be8 fl] _ _ hS.on (fun j x hj => by rw [Nat.zero_add]; exact PH.cell_of hlt (by rw [List.getElem?_toArray]; exact hj)) ⟨rfl, fun j hj => by
                rcases (by have hj' : j < 6 := hj; omega : j = 0 ∨ j = 1 ∨ j = 2 ∨ j = 3 ∨ j = 4 ∨ j = 5) with rfl | rfl | rfl | rfl | rfl | rfl
                · exact ⟨_, rfl, qa⟩
                · exact ⟨_, rfl, qb⟩
                · exact ⟨_, rfl, qc⟩
                · exact ⟨_, rfl, qd⟩
                · exact ⟨_, rfl, qe⟩
                · exact ⟨_, rfl, qf⟩⟩ (by show 0 < 6; decide) (by show 6 ≤ 255; decide) (by rw [Tick.enc_length]; simp only [List.map_cons, List.map_nil, List.sum_cons, List.sum_nil, Tick.be8_length]; have := hc.2; have := hs.2; omega)) ?_)
              rintro vv w MX hS hG9 hvv
              obtain ⟨MC, hMC⟩ : ∃ MC, MC = MX := ⟨_, rfl⟩
              subst hMC
              have hGC := hGC.trans hG9
              have hK0 : On M1 w := (hS.known hGC.1).on
              refine ⟨hK0, ?_⟩
              refine AL.take 20 rfl (by kernel_rfl) (by kernel_rfl) (by kernel_rfl) rfl rfl rfl hK0 (fun w hK => Res.assign rfl rfl) ?_
              refine AL.take 21 rfl (by kernel_rfl) (by kernel_rfl) (by kernel_rfl) rfl rfl rfl hK0 (fun w hK => Res.assign rfl rfl) ?_
              refine AL.done (by kernel_rfl) (Thn_n ?_)
              exact ⟨_, _, ⟨rfl, rfl, trivial⟩, hGC, hS, hvv⟩
      · refine Stp.callG (args := [_]) rfl rfl rfl cal77 rfl rfl hS (int8_ok u _ _ hS.on (by omega)) ?_
        rintro yqd w MX hS hG9 qd
        obtain ⟨qda, qdc, rfl, -, -, -, -⟩ := id qd
        obtain ⟨MC, hMC⟩ : ∃ MC, MC = MX := ⟨_, rfl⟩
        subst hMC
        have hGC := hGC.trans hG9
        try (have qa := qa.mono hG9.1)
        try (have qb := qb.mono hG9.1)
        try (have qc := qc.mono hG9.1)
        try (have qe := qe.mono hG9.1)
        try (have qf := qf.mono hG9.1)
        have hK0 : On M1 w := (hS.known hGC.1).on
        refine ⟨hK0, ?_⟩
        refine AL.three 2 5 14 rfl rfl rfl (by kernel_rfl) (Wan.none rfl) (Wan.none rfl) (Wan.none rfl) ?_ ?_ ?_
        · refine Stp.s2b (l := c) rfl rfl underlying9 underlying30 underlying5 (by omega) hS rfl rfl ?_
          intro w yqa MX hS hG9 qa
          obtain ⟨qaa, qac, rfl, -, -, -, -⟩ := id qa
          obtain ⟨MC, hMC⟩ : ∃ MC, MC = MX := ⟨_, rfl⟩
          subst hMC
          have hGC := hGC.trans hG9
          try (have qb := qb.mono hG9.1)
          try (have qc := qc.mono hG9.1)
          try (have qd := qd.mono hG9.1)
          try (have qe := qe.mono hG9.1)
          try (have qf := qf.mono hG9.1)
          have hK0 : On M1 w := (hS.known hGC.1).on
          refine ⟨hK0, ?_⟩
          refine AL.two 5 14 rfl rfl (by kernel_rfl) rfl rfl ?_ ?_
          · refine Stp.s2b (l := s) rfl rfl underlying9 underlying30 underlying5 (by omega) hS rfl rfl ?_
            intro w yqb MX hS hG9 qb
            obtain ⟨qba, qbc, rfl, -, -, -, -⟩ := id qb
            obtain ⟨MC, hMC⟩ : ∃ MC, MC = MX := ⟨_, rfl⟩
            subst hMC
            have hGC := hGC.trans hG9
            try (have qa := qa.mono hG9.1)
            try (have qc := qc.mono hG9.1)
            try (have qd := qd.mono hG9.1)
            try (have qe := qe.mono hG9.1)
            try (have qf := qf.mono hG9.1)
            have hK0 : On M1 w := (hS.known hGC.1).on
            refine ⟨hK0, ?_⟩
            refine AL.one 14 rfl (by kernel_rfl) rfl (Stp.callG (args := [_]) rfl rfl rfl cal77 rfl rfl hS (int8_ok e _ _ hS.on (by omega)) ?_)
            rintro yqe w MX hS hG9 qe
            obtain ⟨qea, qec, rfl, -, -, -, -⟩ := id qe
            obtain ⟨MC, hMC⟩ : ∃ MC, MC = MX := ⟨_, rfl⟩
            subst hMC
            have hGC := hGC.trans hG9
            try (have qa := qa.mono hG9.1)
            try (have qb := qb.mono hG9.1)
            try (have qc := qc.mono hG9.1)
            try (have qd := qd.mono hG9.1)
            try (have qf := qf.mono hG9.1)
            have hK0 : On M1 w := (hS.known hGC.1).on
            refine ⟨hK0, ?_⟩
            refine AL.one 17 rfl (by kernel_rfl) rfl (Stp.callG (args := [_]) rfl rfl rfl cal77 rfl rfl hS (int8_ok fl _ _ hS.on (by omega)) ?_)
            rintro yqf w MX hS hG9 qf
            obtain ⟨qfa, qfc, rfl, -, -, -, -⟩ := id qf
            obtain ⟨MC, hMC⟩ : ∃ MC, MC = MX := ⟨_, rfl⟩
            subst hMC
            have hGC := hGC.trans hG9
            try (have qa := qa.mono hG9.1)
            try (have qb := qb.mono hG9.1)
            try (have qc := qc.mono hG9.1)
            try (have qd := qd.mono hG9.1)
            try (have qe := qe.mono hG9.1)
            have hK0 : On M1 w := (hS.known hGC.1).on
            refine ⟨hK0, ?_⟩
            refine AL.one 18 rfl (by kernel_rfl) rfl (Stp.lit (vals := [(0, .slice qaa (c).length qac), (1, .slice qba (s).length qbc), (2, .slice qca (Tick.be8 f).length qcc), (3, .slice qda (Tick.be8 u).length qdc), (4, .slice qea (Tick.be8 e).length qec), (5, .slice qfa (Tick.be8 fl).length qfc)]) (cs := #[.slice qaa (c).length qac, .slice qba (s).length qbc, .slice qca (Tick.be8 f).length qcc, .slice qda (Tick.be8 u).length qdc, .slice qea (Tick.be8 e).length qec, .slice qfa (Tick.be8 fl).length qfc]) (e := 30) rfl rfl (fun _ => by kernel_rfl) rfl rfl hS ?_)
            intro b29 w hb29 hS hkp hnw
            have hF := hS.freezeG (i := 0) rfl hb29
            obtain ⟨MC, hG9, hlt, hS⟩ : ∃ M9, Grow w0.heap.size MC M9 ∧ M9 b29 = some (.cells #[.slice qaa (c).length qac, .slice qba (s).length qbc, .slice qca (Tick.be8 f).length qcc, .slice qda (Tick.be8 u).length qdc, .slice qea (Tick.be8 e).length qec, .slice qfa (Tick.be8 fl).length qfc] 30 (0, 0)) ∧ St w0 w M9 [] := ⟨_, hF.2, PH.add_self _ _ _, hF.1⟩
            have hGC := hGC.trans hG9
            have qa := qa.mono hG9.1
            have qb := qb.mono hG9.1
            have qc := qc.mono hG9.1
            have qd := qd.mono hG9.1
            have qe := qe.mono hG9.1
            have qf := qf.mono hG9.1
            have hK0 : On M1 w := (hS.known hGC.1).on
            refine ⟨hK0, ?_⟩
            refine AL.one 19 rfl (by kernel_rfl) rfl (Stp.callG (args := [_]) rfl rfl rfl cal76 rfl rfl hS (value_ok b29 0 6 [.slice qaa (c).length qac, .slice qba (s).length qbc, .slice qca (Tick.be8 f).length qcc, .slice qda (Tick.be8 u).length qdc, .slice qea (Tick.be8 e).length qec, .slice qfa (Tick.be8 fl).length qfc] [c, s, Tick.be8 f, Tick.be8 u, Tick.be8 e, Tick.be8 fl] _ _ hS.on (fun j x hj => by rw [Nat.zero_add]; exact PH.cell_of hlt (by rw [List.getElem?_toArray]; exact hj)) ⟨rfl, fun j hj => by
              rcases (by have hj' : j < 6 := hj; omega : j = 0 ∨ j = 1 ∨ j = 2 ∨ j = 3 ∨ j = 4 ∨ j = 5) with rfl | rfl | rfl | rfl | rfl | rfl
              · exact ⟨_, rfl, qa⟩
              · exact ⟨_, rfl, qb⟩
              · exact ⟨_, rfl, qc⟩
              · exact ⟨_, rfl, qd⟩
              · exact ⟨_, rfl, qe⟩
              · exact ⟨_, rfl, qf⟩⟩ (by show 0 < 6; decide) (by show 6 ≤ 255; decide) (by rw [Tick.enc_length]; simp only [List.map_cons, List.map_nil, List.sum_cons, List.sum_nil, Tick.be8_length]; have := hc.2; have := hs.2; omega)) ?_)
            rintro vv w MX hS hG9 hvv
            obtain ⟨MC, hMC⟩ : ∃ MC, MC = MX := ⟨_, rfl⟩
            subst hMC
            have hGC := hGC.trans hG9
            have hK0 : On M1 w := (hS.known hGC.1).on
            refine ⟨hK0, ?_⟩
            refine AL.take 20 rfl (by kernel_rfl) (by kernel_rfl) (by kernel_rfl) rfl rfl rfl hK0 (fun w hK => Res.assign rfl rfl) ?_
            refine AL.take 21 rfl (by kernel_rfl) (by kernel_rfl) (by kernel_rfl) rfl rfl rfl hK0 (fun w hK => Res.assign rfl rfl) ?_
            refine AL.done (by kernel_rfl) (Thn_n ?_)
            exact ⟨_, _, ⟨rfl, rfl, trivial⟩, hGC, hS, hvv⟩
          · refine Stp.callG (args := [_]) rfl rfl rfl cal77 rfl rfl hS (int8_ok e _ _ hS.on (by omega)) ?_
            rintro yqe w MX hS hG9 qe
            obtain ⟨qea, qec, rfl, -, -, -, -⟩ := id qe
            obtain ⟨MC, hMC⟩ : ∃ MC, MC = MX := ⟨_, rfl⟩
            subst hMC
            have hGC := hGC.trans hG9
            try (have qa := qa.mono hG9.1)
            try (have qb := qb.mono hG9.1)
            try (have qc := qc.mono hG9.1)
            try (have qd := qd.mono hG9.1)
            try (have qf := qf.mono hG9.1)
            have hK0 : On M1 w := (hS.known hGC.1).on
            refine ⟨hK0, ?_⟩
            refine AL.two 5 17 rfl rfl (by kernel_rfl) rfl rfl ?_ ?_
            · refine Stp.s2b (l := s) rfl rfl underlying9 underlying30 underlying5 (by omega) hS rfl rfl ?_
              intro w yqb MX hS hG9 qb
              obtain ⟨qba, qbc, rfl, -, -, -, -⟩ := id qb
              obtain ⟨MC, hMC⟩ : ∃ MC, MC = MX := ⟨_, rfl⟩
              subst hMC
              have hGC := hGC.trans hG9
              try (have qa := qa.mono hG9.1)
              try (have qc := qc.mono hG9.1)
              try (have qd := qd.mono hG9.1)
              try (have qe := qe.mono hG9.1)
              try (have qf := qf.mono hG9.1)
              have hK0 : On M1 w := (hS.known hGC.1).on
              refine ⟨hK0, ?_⟩
              refine AL.one 17 rfl (by kernel_rfl) rfl (Stp.callG (args := [_]) rfl rfl rfl cal77 rfl rfl hS (int8_ok fl _ _ hS.on (by omega)) ?_)
              rintro yqf w MX hS hG9 qf
              obtain ⟨qfa, qfc, rfl, -, -, -, -⟩ := id qf
              obtain ⟨MC, hMC⟩ : ∃ MC, MC = MX := ⟨_, rfl⟩
              subst hMC
              have hGC := hGC.trans hG9
              try (have qa := qa.mono hG9.1)
              try (have qb := qb.mono hG9.1)
              try (have qc := qc.mono hG9.1)
              try (have qd := qd.mono hG9.1)
              try (have qe := qe.mono hG9.1)
              have hK0 : On M1 w := (hS.known hGC.1).on
              refine ⟨hK0, ?_⟩
              refine AL.one 18 rfl (by kernel_rfl) rfl (Stp.lit (vals := [(0, .slice qaa (c).length qac), (1, .slice qba (s).length qbc), (2, .slice qca (Tick.be8 f).length qcc), (3, .slice qda (Tick.be8 u).length qdc), (4, .slice qea (Tick.be8 e).length qec), (5, .slice qfa (Tick.be8 fl).length qfc)]) (cs := #[.slice qaa (c).length qac, .slice qba (s).length qbc, .slice qca (Tick.be8 f).length qcc, .slice qda (Tick.be8 u).length qdc, .slice qea (Tick.be8 e).length qec, .slice qfa (Tick.be8 fl).length qfc]) (e := 30) rfl rfl (fun _ => by kernel_rfl) rfl rfl hS ?_)
              intro b29 w hb29 hS hkp hnw
              have hF := hS.freezeG (i := 0) rfl hb29
              obtain ⟨MC, hG9, hlt, hS⟩ : ∃ M9, Grow w0.heap.size MC M9 ∧ M9 b29 = some (.cells #[.slice qaa (c).length qac, .slice qba (s).length qbc, .slice qca (Tick.be8 f).length qcc, .slice qda (Tick.be8 u).length qdc, .slice qea (Tick.be8 e).length qec, .slice qfa (Tick.be8 fl).length qfc] 30 (0, 0)) ∧ St w0 w M9 [] := ⟨_, hF.2, PH.add_self _ _ _, hF.1⟩
              have hGC := hGC.trans hG9
              have qa := qa.mono hG9.1
              have qb := qb.mono hG9.1
              have qc := qc.mono hG9.1
              have qd := qd.mono hG9.1
              have qe := qe.mono hG9.1
              have qf := qf.mono hG9.1
              have hK0 : On M1 w := (hS.known hGC.1).on
              refine ⟨hK0, ?_⟩
              refine AL.one 19 rfl (by kernel_rfl) rfl (Stp.callG (args := [_]) rfl rfl rfl cal76 rfl rfl hS (value_ok b29 0 6 [.slice qaa (c).length qac, .slice qba (s).length qbc, .slice qca (Tick.be8 f).length qcc, .slice qda (Tick.be8 u).length qdc, .slice qea (Tick.be8 e).length qec, .slice qfa (Tick.be8 fl).length qfc] [c, s, Tick.be8 f, Tick.be8 u, Tick.be8 e, Tick.be8 fl] _ _ hS.on (fun j x hj => by rw [Nat.zero_add]; exact PH.cell_of hlt (by rw [List.getElem?_toArray]; exact hj)) ⟨rfl, fun j hj => by
                rcases (by have hj' : j < 6 := hj; omega : j = 0 ∨ j = 1 ∨ j = 2 ∨ j = 3 ∨ j = 4 ∨ j = 5) with rfl | rfl | rfl | rfl | rfl | rfl
                · exact ⟨_, rfl, qa⟩
                · exact ⟨_, rfl, qb⟩
                · exact ⟨_, rfl, qc⟩
                · exact ⟨_, rfl, qd⟩
                · exact ⟨_, rfl, qe⟩
                · exact ⟨_, rfl, qf⟩⟩ (by show 0 < 6; decide) (by show 6 ≤ 255; decide) (by rw [Tick.enc_length]; simp only [List.map_cons, List.map_nil, List.sum_cons, List.sum_nil, Tick.be8_length]; have := hc.2; have := hs.2; omega)) ?_)
              rintro vv w MX hS hG9 hvv
              obtain ⟨MC, hMC⟩ : ∃ MC, MC = MX := ⟨_, rfl⟩
              subst hMC
              have hGC := hGC.trans hG9
              have hK0 : On M1 w := (hS.known hGC.1).on
              refine ⟨hK0, ?_⟩
              refine AL.take 20 rfl (by kernel_rfl) (by kernel_rfl) (by kernel_rfl) rfl rfl rfl hK0 (fun w hK => Res.assign rfl rfl) ?_
              refine AL.take 21 rfl (by kernel_rfl) (by kernel_rfl) (by kernel_rfl) rfl rfl rfl hK0 (fun w hK => Res.assign rfl rfl) ?_
              refine AL.done (by kernel_rfl) (Thn_n ?_)
              exact ⟨_, _, ⟨rfl, rfl, trivial⟩, hGC, hS, hvv⟩
            · refine Stp.callG (args := [_]) rfl rfl rfl cal77 rfl rfl hS (int8_ok fl _ _ hS.on (by omega)) ?_
              rintro yqf w MX hS hG9 qf
              obtain ⟨qfa, qfc, rfl, -, -, -, -⟩ := id qf
              obtain ⟨MC, hMC⟩ : ∃ MC, MC = MX := ⟨_, rfl⟩
              subst hMC
              have hGC := hGC.trans hG9
              try (have qa := qa.mono hG9.1)
              try (have qb := qb.mono hG9.1)
              try (have qc := qc.mono hG9.1)
              try (have qd := qd.mono hG9.1)
              try (have qe := qe.mono hG9.1)
              have hK0 : On M1 w := (hS.known hGC.1).on
              refine ⟨hK0, ?_⟩
              refine AL.one 5 rfl (by kernel_rfl) rfl (Stp.s2b (l := s) rfl rfl underlying9 underlying30 underlying5 (by omega) hS rfl rfl ?_)
              intro w yqb MX hS hG9 qb
              obtain ⟨qba, qbc, rfl, -, -, -, -⟩ := id qb
              obtain ⟨MC, hMC⟩ : ∃ MC, MC = MX := ⟨_, rfl⟩
              subst hMC
              have hGC := hGC.trans hG9
              try (have qa := qa.mono hG9.1)
              try (have qc := qc.mono hG9.1)
              try (have qd := qd.mono hG9.1)
              try (have qe := qe.mono hG9.1)
              try (have qf := qf.mono hG9.1)
              have hK0 : On M1 w := (hS.known hGC.1).on
              refine ⟨hK0, ?_⟩
              refine AL.one 18 rfl (by kernel_rfl) rfl (Stp.lit (vals := [(0, .slice qaa (c).length qac), (1, .slice qba (s).length qbc), (2, .slice qca (Tick.be8 f).length qcc), (3, .slice qda (Tick.be8 u).length qdc), (4, .slice qea (Tick.be8 e).length qec), (5, .slice qfa (Tick.be8 fl).length qfc)]) (cs := #[.slice qaa (c).length qac, .slice qba (s).length qbc, .slice qca (Tick.be8 f).length qcc, .slice qda (Tick.be8 u).length qdc, .slice qea (Tick.be8 e).length qec, .slice qfa (Tick.be8 fl).length qfc]) (e := 30) rfl rfl (fun _ => by kernel_rfl) rfl rfl hS ?_)
              intro b29 w hb29 hS hkp hnw
              have hF := hS.freezeG (i := 0) rfl hb29
              obtain ⟨MC, hG9, hlt, hS⟩ : ∃ M9, Grow w0.heap.size MC M9 ∧ M9 b29 = some (.cells #[.slice qaa (c).length qac, .slice qba (s).length qbc, .slice qca (Tick.be8 f).length qcc, .slice qda (Tick.be8 u).length qdc, .slice qea (Tick.be8 e).length qec, .slice qfa (Tick.be8 fl).length qfc] 30 (0, 0)) ∧ St w0 w M9 [] := ⟨_, hF.2, PH.add_self _ _ _, hF.1⟩
              have hGC := hGC.trans hG9
              have qa := qa.mono hG9.1
              have qb := qb.mono hG9.1
              have qc := qc.mono hG9.1
              have qd := qd.mono hG9.1
              have qe := qe.mono hG9.1
              have qf := qf.mono hG9.1
              have hK0 : On M1 w := (hS.known hGC.1).on
              refine ⟨hK0, ?_⟩
              refine AL.one 19 rfl (by kernel_rfl) rfl (Stp.callG (args := [_]) rfl rfl rfl cal76 rfl rfl hS (value_ok b29 0 6 [.slice qaa (c).length qac, .slice qba (s).length qbc, .slice qca (Tick.be8 f).length qcc, .slice qda (Tick.be8 u).length qdc, .slice qea (Tick.be8 e).length qec, .slice qfa (Tick.be8 fl).length qfc] [c, s, Tick.be8 f, Tick.be8 u, Tick.be8 e, Tick.be8 fl] _ _ hS.on (fun j x hj => by rw [Nat.zero_add]; exact PH.cell_of hlt (by rw [List.getElem?_toArray]; exact hj)) ⟨rfl, fun j hj => by
                rcases (by have hj' : j < 6 := hj; omega : j = 0 ∨ j = 1 ∨ j = 2 ∨ j = 3 ∨ j = 4 ∨ j = 5) with rfl | rfl | rfl | rfl | rfl | rfl
                · exact ⟨_, rfl, qa⟩
                · exact ⟨_, rfl, qb⟩
                · exact ⟨_, rfl, qc⟩
                · exact ⟨_, rfl, qd⟩
                · exact ⟨_, rfl, qe⟩
                · exact ⟨_, rfl, qf⟩⟩ (by show 0 < 6; decide) (by show 6 ≤ 255; decide) (by rw [Tick.enc_length]; simp only [List.map_cons, List.map_nil, List.sum_cons, List.sum_nil, Tick.be8_length]; have := hc.2; have := hs.2; omega)) ?_)
              rintro vv w MX hS hG9 hvv
              obtain ⟨MC, hMC⟩ : ∃ MC, MC = MX := ⟨_, rfl⟩
              subst hMC
              have hGC := hGC.trans hG9
              have hK0 : On M1 w := (hS.known hGC.1).on
              refine ⟨hK0, ?_⟩
              refine AL.take 20 rfl (by kernel_rfl) (by kernel_rfl) (by kernel_rfl) rfl rfl rfl hK0 (fun w hK => Res.assign rfl rfl) ?_
              refine AL.take 21 rfl (by kernel_rfl) (by kernel_rfl) (by kernel_rfl) rfl rfl rfl hK0 (fun w hK => Res.assign rfl rfl) ?_
              refine AL.done (by kernel_rfl) (Thn_n ?_)
              exact ⟨_, _, ⟨rfl, rfl, trivial⟩, hGC, hS, hvv⟩
        · refine Stp.s2b (l := s) rfl rfl underlying9 underlying30 underlying5 (by omega) hS rfl rfl ?_
          intro w yqb MX hS hG9 qb
          obtain ⟨qba, qbc, rfl, -, -, -, -⟩ := id qb
          obtain ⟨MC, hMC⟩ : ∃ MC, MC = MX := ⟨_, rfl⟩
          subst hMC
          have hGC := hGC.trans hG9
          try (have qa := qa.mono hG9.1)
          try (have qc := qc.mono hG9.1)
          try (have qd := qd.mono hG9.1)
          try (have qe := qe.mono hG9.1)
          try (have qf := qf.mono hG9.1)
          have hK0 : On M1 w := (hS.known hGC.1).on
          refine ⟨hK0, ?_⟩
          refine AL.two 2 14 rfl rfl (by kernel_rfl) rfl rfl ?_ ?_
          · refine Stp.s2b (l := c) rfl rfl underlying9 underlying30 underlying5 (by omega) hS rfl rfl ?_
            intro w yqa MX hS hG9 qa
            obtain ⟨qaa, qac, rfl, -, -, -, -⟩ := id qa
            obtain ⟨MC, hMC⟩ : ∃ MC, MC = MX := ⟨_, rfl⟩
            subst hMC
            have hGC := hGC.trans hG9
            try (have qb := qb.mono hG9.1)
            try (have qc := qc.mono hG9.1)
            try (have qd := qd.mono hG9.1)
            try (have qe := qe.mono hG9.1)
            try (have qf := qf.mono hG9.1)
            have hK0 : On M1 w := (hS.known hGC.1).on
            refine ⟨hK0, ?_⟩
            refine AL.one 14 rfl (by kernel_rfl) rfl (Stp.callG (args := [_]) rfl rfl rfl cal77 rfl rfl hS (int8_ok e _ _ hS.on (by omega)) ?_)
            rintro yqe w MX hS hG9 qe
            obtain ⟨qea, qec, rfl, -, -, -, -⟩ := id qe
            obtain ⟨MC, hMC⟩ : ∃ MC, MC = MX := ⟨_, rfl⟩
            subst hMC
            have hGC := hGC.trans hG9
            try (have qa := qa.mono hG9.1)
            try (have qb := qb.mono hG9.1)
            try (have qc := qc.mono hG9.1)
            try (have qd := qd.mono hG9.1)
            try (have qf := qf.mono hG9.1)
            have hK0 : On M1 w := (hS.known hGC.1).on
            refine ⟨hK0, ?_⟩
            refine AL.one 17 rfl (by kernel_rfl) rfl (Stp.callG (args := [_]) rfl rfl rfl cal77 rfl rfl hS (int8_ok fl _ _ hS.on (by omega)) ?_)
            rintro yqf w MX hS hG9 qf
            obtain ⟨qfa, qfc, rfl, -, -, -, -⟩ := id qf
            obtain ⟨MC, hMC⟩ : ∃ MC, MC = MX := ⟨_, rfl⟩
            subst hMC
            have hGC := hGC.trans hG9
            try (have qa := qa.mono hG9.1)
            try (have qb := qb.mono hG9.1)
            try (have qc := qc.mono hG9.1)
            try (have qd := qd.mono hG9.1)
            try (have qe := qe.mono hG9.1)
            have hK0 : On M1 w := (hS.known hGC.1).on
            refine ⟨hK0, ?_⟩
            refine AL.one 18 rfl (by kernel_rfl) rfl (Stp.lit (vals := [(0, .slice qaa (c).length qac), (1, .slice qba (s).length qbc), (2, .slice qca (Tick.be8 f).length qcc), (3, .slice qda (Tick.be8 u).length qdc), (4, .slice qea (Tick.be8 e).length qec), (5, .slice qfa (Tick.be8 fl).length qfc)]) (cs := #[.slice qaa (c).length qac, .slice qba (s).length qbc, .slice qca (Tick.be8 f).length qcc, .slice qda (Tick.be8 u).length qdc, .slice qea (Tick.be8 e).length qec, .slice qfa (Tick.be8 fl).length qfc]) (e := 30) rfl rfl (fun _ => by kernel_rfl) rfl rfl hS ?_)
            intro b29 w hb29 hS hkp hnw
            have hF := hS.freezeG (i := 0) rfl hb29
            obtain ⟨MC, hG9, hlt, hS⟩ : ∃ M9, Grow w0.heap.size MC M9 ∧ M9 b29 = some (.cells #[.slice qaa (c).length qac, .slice qba (s).length qbc, .slice qca (Tick.be8 f).length qcc, .slice qda (Tick.be8 u).length qdc, .slice qea (Tick.be8 e).length qec, .slice qfa (Tick.be8 fl).length qfc] 30 (0, 0)) ∧ St w0 w M9 [] := ⟨_, hF.2, PH.add_self _ _ _, hF.1⟩
            have hGC := hGC.trans hG9
            have qa := qa.mono hG9.1
            have qb := qb.mono hG9.1
            have qc := qc.mono hG9.1
            have qd := qd.mono hG9.1
            have qe := qe.mono hG9.1
            have qf := qf.mono hG9.1
            have hK0 : On M1 w := (hS.known hGC.1).on
            refine ⟨hK0, ?_⟩
            refine AL.one 19 rfl (by kernel_rfl) rfl (Stp.callG (args := [_]) rfl rfl rfl cal76 rfl rfl hS (value_ok b29 0 6 [.slice qaa (c).length qac, .slice qba (s).length qbc, .slice qca (Tick.be8 f).length qcc, .slice qda (Tick.be8 u).length qdc, .slice qea (Tick.be8 e).length qec, .slice qfa (Tick.be8 fl).length qfc] [c, s, Tick.be8 f, Tick.be8 u, Tick.be8 e, Tick.be8 fl] _ _ hS.on (fun j x hj => by rw [Nat.zero_add]; exact PH.cell_of hlt (by rw [List.getElem?_toArray]; exact hj)) ⟨rfl, fun j hj => by
              rcases (by have hj' : j < 6 := hj; omega : j = 0 ∨ j = 1 ∨ j = 2 ∨ j = 3 ∨ j = 4 ∨ j = 5) with rfl | rfl | rfl | rfl | rfl | rfl
              · exact ⟨_, rfl, qa⟩
              · exact ⟨_, rfl, qb⟩
              · exact ⟨_, rfl, qc⟩
              · exact ⟨_, rfl, qd⟩
              · exact ⟨_, rfl, qe⟩
              · exact ⟨_, rfl, qf⟩⟩ (by show 0 < 6; decide) (by show 6 ≤ 255; decide) (by rw [Tick.enc_length]; simp only [List.map_cons, List.map_nil, List.sum_cons, List.sum_nil, Tick.be8_length]; have := hc.2; have := hs.2; omega)) ?_)
            rintro vv w MX hS hG9 hvv
            obtain ⟨MC, hMC⟩ : ∃ MC, MC = MX := ⟨_, rfl⟩
            subst hMC
            have hGC := hGC.trans hG9
            have hK0 : On M1 w := (hS.known hGC.1).on
            refine ⟨hK0, ?_⟩
            refine AL.take 20 rfl (by kernel_rfl) (by kernel_rfl) (by kernel_rfl) rfl rfl rfl hK0 (fun w hK => Res.assign rfl rfl) ?_
            refine AL.take 21 rfl (by kernel_rfl) (by kernel_rfl) (by kernel_rfl) rfl rfl rfl hK0 (fun w hK => Res.assign rfl rfl) ?_
            refine AL.done (by kernel_rfl) (Thn_n ?_)
            exact ⟨_, _, ⟨rfl, rfl, trivial⟩, hGC, hS, hvv⟩
          · refine Stp.callG (args := [_]) rfl rfl rfl cal77 rfl rfl hS (int8_ok e _ _ hS.on (by omega)) ?_
            rintro yqe w MX hS hG9 qe
            obtain ⟨qea, qec, rfl, -, -, -, -⟩ := id qe
            obtain ⟨MC, hMC⟩ : ∃ MC, MC = MX := ⟨_, rfl⟩
            subst hMC
            have hGC := hGC.trans hG9
            try (have qa := qa.mono hG9.1)
            try (have qb := qb.mono hG9.1)
            try (have qc := qc.mono hG9.1)
            try (have qd := qd.mono hG9.1)
            try (have qf := qf.mono hG9.1)
            have hK0 : On M1 w := (hS.known hGC.1).on
            refine ⟨hK0, ?_⟩
            refine AL.two 2 17 rfl rfl (by kernel_rfl) rfl rfl ?_ ?_
            · refine Stp.s2b (l := c) rfl rfl underlying9 underlying30 underlying5 (by omega) hS rfl rfl ?_
              intro w yqa MX hS hG9 qa
              obtain ⟨qaa, qac, rfl, -, -, -, -⟩ := id qa
              obtain ⟨MC, hMC⟩ : ∃ MC, MC = MX := ⟨_, rfl⟩
              subst hMC
              have hGC := hGC.trans hG9
              try (have qb := qb.mono hG9.1)
              try (have qc := qc.mono hG9.1)
              try (have qd := qd.mono hG9.1)
              try (have qe := qe.mono hG9.1)
              try (have qf := qf.mono hG9.1)
              have hK0 : On M1 w := (hS.known hGC.1).on
              refine ⟨hK0, ?_⟩
              refine AL.one 17 rfl (by kernel_rfl) rfl (Stp.callG (args := [_]) rfl rfl rfl cal77 rfl rfl hS (int8_ok fl _ _ hS.on (by omega)) ?_)
              rintro yqf w MX hS hG9 qf
              obtain ⟨qfa, qfc, rfl, -, -, -, -⟩ := id qf
              obtain ⟨MC, hMC⟩ : ∃ MC, MC = MX := ⟨_, rfl⟩
              subst hMC
              have hGC := hGC.trans hG9
              try (have qa := qa.mono hG9.1)
              try (have qb := qb.mono hG9.1)
              try (have qc := qc.mono hG9.1)
              try (have qd := qd.mono hG9.1)
              try (have qe := qe.mono hG9.1)
              have hK0 : On M1 w := (hS.known hGC.1).on
              refine ⟨hK0, ?_⟩
              refine AL.one 18 rfl (by kernel_rfl) rfl (Stp.lit (vals := [(0, .slice qaa (c).length qac), (1, .slice qba (s).length qbc), (2, .slice qca (Tick.be8 f).length qcc), (3, .slice qda (Tick.be8 u).length qdc), (4, .slice qea (Tick.be8 e).length qec), (5, .slice qfa (Tick.be8 fl).length qfc)]) (cs := #[.slice qaa (c).length qac, .slice qba (s).length qbc, .slice qca (Tick.be8 f).length qcc, .slice qda (Tick.be8 u).length qdc, .slice qea (Tick.be8 e).length qec, .slice qfa (Tick.be8 fl).length qfc]) (e := 30) rfl rfl (fun _ => by kernel_rfl) rfl rfl hS ?_)
              intro b29 w hb29 hS hkp hnw
              have hF := hS.freezeG (i := 0) rfl hb29
              obtain ⟨MC, hG9, hlt, hS⟩ : ∃ M9, Grow w0.heap.size MC M9 ∧ M9 b29 = some (.cells #[.slice qaa (c).length qac, .slice qba (s).length qbc, .slice qca (Tick.be8 f).length qcc, .slice qda (Tick.be8 u).length qdc, .slice qea (Tick.be8 e).length qec, .slice qfa (Tick.be8 fl).length qfc] 30 (0, 0)) ∧ St w0 w M9 [] := ⟨_, hF.2, PH.add_self _ _ _, hF.1⟩
              have hGC := hGC.trans hG9
              have qa := qa.mono hG9.1
              have qb := qb.mono hG9.1
              have qc := qc.mono hG9.1
              have qd := qd.mono hG9.1
              have qe := qe.mono hG9.1
              have qf := qf.mono hG9.1
              have hK0 : On M1 w := (hS.known hGC.1).on
              refine ⟨hK0, ?_⟩
              refine AL.one 19 rfl (by kernel_rfl) rfl (Stp.callG (args := [_]) rfl rfl rfl cal76 rfl rfl hS (value_ok b29 0 6 [.slice qaa (c).length qac, .slice qba (s).length qbc, .slice qca (Tick.be8 f).length qcc, .slice qda (Tick.be8 u).length qdc, .slice qea (Tick.be8 e).length qec, .slice qfa (Tick.be8 fl).length qfc] [c, s, Tick.be8 f, Tick.be8 u, Tick.be8 e, Tick.be8 fl] _ _ hS.on (fun j x hj => by rw [Nat.zero_add]; exact PH.cell_of hlt (by rw [List.getElem?_toArray]; exact hj)) ⟨rfl, fun j hj => by
                rcases (by have hj' : j < 6 := hj; omega : j = 0 ∨ j = 1 ∨ j = 2 ∨ j = 3 ∨ j = 4 ∨ j = 5) with rfl | rfl | rfl | rfl | rfl | rfl
                · exact ⟨_, rfl, qa⟩
                · exact ⟨_, rfl, qb⟩
                · exact ⟨_, rfl, qc⟩
                · exact ⟨_, rfl, qd⟩
                · exact ⟨_, rfl, qe⟩
                · exact ⟨_, rfl, qf⟩⟩ (by show 0 < 6; decide) (by show 6 ≤ 255; decide) (by rw [Tick.enc_length]; simp only [List.map_cons, List.map_nil, List.sum_cons, List.sum_nil, Tick.be8_length]; have := hc.2; have := hs.2; omega)) ?_)
              rintro vv w MX hS hG9 hvv
              obtain ⟨MC, hMC⟩ : ∃ MC, MC = MX := ⟨_, rfl⟩
              subst hMC
              have hGC := hGC.trans hG9
              have hK0 : On M1 w := (hS.known hGC.1).on
              refine ⟨hK0, ?_⟩
              refine AL.take 20 rfl (by kernel_rfl) (by kernel_rfl) (by kernel_rfl) rfl rfl rfl hK0 (fun w hK => Res.assign rfl rfl) ?_
              refine AL.take 21 rfl (by kernel_rfl) (by kernel_rfl) (by kernel_rfl) rfl rfl rfl hK0 (fun w hK => Res.assign rfl rfl) ?_
              refine AL.done (by kernel_rfl) (Thn_n ?_)
              exact ⟨_, _, ⟨rfl, rfl, trivial⟩, hGC, hS, hvv⟩
            · refine Stp.callG (args := [_]) rfl rfl rfl cal77 rfl rfl hS (int8_ok fl _ _ hS.on (by omega)) ?_
              rintro yqf w MX hS hG9 qf
              obtain ⟨qfa, qfc, rfl, -, -, -, -⟩ := id qf
              obtain ⟨MC, hMC⟩ : ∃ MC, MC = MX := ⟨_, rfl⟩
              subst hMC
              have hGC := hGC.trans hG9
              try (have qa := qa.mono hG9.1)
              try (have qb := qb.mono hG9.1)
              try (have qc := qc.mono hG9.1)
              try (have qd := qd.mono hG9.1)
              try (have qe := qe.mono hG9.1)
              have hK0 : On M1 w := (hS.known hGC.1).on
              refine ⟨hK0, ?_⟩
              refine AL.one 2 rfl (by kernel_rfl) rfl (Stp.s2b (l := c) rfl rfl underlying9 underlying30 underlying5 (by omega) hS rfl rfl ?_)
              intro w yqa MX hS hG9 qa
              obtain ⟨qaa, qac, rfl, -, -, -, -⟩ := id qa
              obtain ⟨MC, hMC⟩ : ∃ MC, MC = MX := ⟨_, rfl⟩
              subst hMC
              have hGC := hGC.trans hG9
              try (have qb := qb.mono hG9.1)
              try (have qc := qc.mono hG9.1)
              try (have qd := qd.mono hG9.1)
              try (have qe := qe.mono hG9.1)
              try (have qf := qf.mono hG9.1)
              have hK0 : On M1 w := (hS.known hGC.1).on
              refine ⟨hK0, ?_⟩
              refine AL.one 18 rfl (by kernel_rfl) rfl (Stp.lit (vals := [(0, .slice qaa (c).length qac), (1, .slice qba (s).length qbc), (2, .slice qca (Tick.be8 f).length qcc), (3, .slice qda (Tick.be8 u).length qdc), (4, .slice qea (Tick.be8 e).length qec), (5, .slice qfa (Tick.be8 fl).length qfc)]) (cs := #[.slice qaa (c).length qac, .slice qba (s).length qbc, .slice qca (Tick.be8 f).length qcc, .slice qda (Tick.be8 u).length qdc, .slice qea (Tick.be8 e).length qec, .slice qfa (Tick.be8 fl).length qfc]) (e := 30) rfl rfl (fun _ => by kernel_rfl) rfl rfl hS ?_)
              intro b29 w hb29 hS hkp hnw
              have hF := hS.freezeG (i := 0) rfl hb29
              obtain ⟨MC, hG9, hlt, hS⟩ : ∃ M9, Grow w0.heap.size MC M9 ∧ M9 b29 = some (.cells #[.slice qaa (c).length qac, .slice qba (s).length qbc, .slice qca (Tick.be8 f).length qcc, .slice qda (Tick.be8 u).length qdc, .slice qea (Tick.be8 e).length qec, .slice qfa (Tick.be8 fl).length qfc] 30 (0, 0)) ∧ St w0 w M9 [] := ⟨_, hF.2, PH.add_self _ _ _, hF.1⟩
              have hGC := hGC.trans hG9
              have qa := qa.mono hG9.1
              have qb := qb.mono hG9.1
              have qc := qc.mono hG9.1
              have qd := qd.mono hG9.1
              have qe := qe.mono hG9.1
              have qf := qf.mono hG9.1
              have hK0 : On M1 w := (hS.known hGC.1).on
              refine ⟨hK0, ?_⟩
              refine AL.one 19 rfl (by kernel_rfl) rfl (Stp.callG (args := [_]) rfl rfl rfl cal76 rfl rfl hS (value_ok b29 0 6 [.slice qaa (c).length qac, .slice qba (s).length qbc, .slice qca (Tick.be8 f).length qcc, .slice qda (Tick.be8 u).length qdc, .slice qea (Tick.be8 e).length qec, .slice qfa (Tick.be8 fl).length qfc] [c, s, Tick.be8 f, Tick.be8 u, Tick.be8 e, Tick.be8 fl] _ _ hS.on (fun j x hj => by rw [Nat.zero_add]; exact PH.cell_of hlt (by rw [List.getElem?_toArray]; exact hj)) ⟨rfl, fun j hj => by
                rcases (by have hj' : j < 6 := hj; omega : j = 0 ∨ j = 1 ∨ j = 2 ∨ j = 3 ∨ j = 4 ∨ j = 5) with rfl | rfl | rfl | rfl | rfl | rfl
                · exact ⟨_, rfl, qa⟩
                · exact ⟨_, rfl, qb⟩
                · exact ⟨_, rfl, qc⟩
                · exact ⟨_, rfl, qd⟩
                · exact ⟨_, rfl, qe⟩
                · exact ⟨_, rfl, qf⟩⟩ (by show 0 < 6; decide) (by show 6 ≤ 255; decide) (by rw [Tick.enc_length]; simp only [List.map_cons, List.map_nil, List.sum_cons, List.sum_nil, Tick.be8_length]; have := hc.2; have := hs.2; omega)) ?_)
              rintro vv w MX hS hG9 hvv
              obtain ⟨MC, hMC⟩ : ∃ MC, MC = MX := ⟨_, rfl⟩
              subst hMC
              have hGC := hGC.trans hG9
              have hK0 : On M1 w := (hS.known hGC.1).on
              refine ⟨hK0, ?_⟩
              refine AL.take 20 rfl (by kernel_rfl) (by kernel_rfl) (by kernel_rfl) rfl rfl rfl hK0 (fun w hK => Res.assign rfl rfl) ?_
              refine AL.take 21 rfl (by kernel_rfl) (by kernel_rfl) (by kernel_rfl) rfl rfl rfl hK0 (fun w hK => Res.assign rfl rfl) ?_
              refine AL.done (by kernel_rfl) (Thn_n ?_)
              exact ⟨_, _, ⟨rfl, rfl, trivial⟩, hGC, hS, hvv⟩
        · refine Stp.callG (args := [_]) rfl rfl rfl cal77 rfl rfl hS (int8_ok e _ _ hS.on (by omega)) ?_
          rintro yqe w MX hS hG9 qe
          obtain ⟨qea, qec, rfl, -, -, -, -⟩ := id qe
          obtain ⟨MC, hMC⟩ : ∃ MC, MC = MX := ⟨_, rfl⟩
          subst hMC
          have hGC := hGC.trans hG9
          try (have qa := qa.mono hG9.1)
          try (have qb := qb.mono hG9.1)
          try (have qc := qc.mono hG9.1)
          try (have qd := qd.mono hG9.1)
          try (have qf := qf.mono hG9.1)
          have hK0 : On M1 w := (hS.known hGC.1).on
          refine ⟨hK0, ?_⟩
          refine AL.three 2 5 17 rfl rfl rfl (by kernel_rfl) (Wan.none rfl) (Wan.none rfl) (Wan.none rfl) ?_ ?_ ?_
          · refine Stp.s2b (l := c) rfl rfl underlying9 underlying30 underlying5 (by omega) hS rfl rfl ?_
            intro w yqa MX hS hG9 qa
            obtain ⟨qaa, qac, rfl, -, -, -, -⟩ := id qa
            obtain ⟨MC, hMC⟩ : ∃ MC, MC = MX := ⟨_, rfl⟩
            subst hMC
            have hGC := hGC.trans hG9
            try (have qb := qb.mono hG9.1)
            try (have qc := qc.mono hG9.1)
            try (have qd := qd.mono hG9.1)
            try (have qe := qe.mono hG9.1)
            try (have qf := qf.mono hG9.1)
            have hK0 : On M1 w := (hS.known hGC.1).on
            refine ⟨hK0, ?_⟩
            refine AL.two 5 17 rfl rfl (by kernel_rfl) rfl rfl ?_ ?_
            · refine Stp.s2b (l := s) rfl rfl underlying9 underlying30 underlying5 (by omega) hS rfl rfl ?_
              intro w yqb MX hS hG9 qb
              obtain ⟨qba, qbc, rfl, -, -, -, -⟩ := id qb
              obtain ⟨MC, hMC⟩ : ∃ MC, MC = MX := ⟨_, rfl⟩
              subst hMC
              have hGC := hGC.trans hG9
              try (have qa := qa.mono hG9.1)
              try (have qc := qc.mono hG9.1)
              try (have qd := qd.mono hG9.1)
              try (have qe := qe.mono hG9.1)
              try (have qf := qf.mono hG9.1)
              have hK0 : On M1 w := (hS.known hGC.1).on
              refine ⟨hK0, ?_⟩
              refine AL.one 17 rfl (by kernel_rfl) rfl (Stp.callG (args := [_]) rfl rfl rfl cal77 rfl rfl hS (int8_ok fl _ _ hS.on (by omega)) ?_)
              rintro yqf w MX hS hG9 qf
              obtain ⟨qfa, qfc, rfl, -, -, -, -⟩ := id qf
              obtain ⟨MC, hMC⟩ : ∃ MC, MC = MX := ⟨_, rfl⟩
              subst hMC
              have hGC := hGC.trans hG9
              try (have qa := qa.mono hG9.1)
              try (have qb := qb.mono hG9.1)
              try (have qc := qc.mono hG9.1)
              try (have qd := qd.mono hG9.1)
              try (have qe := qe.mono hG9.1)
              have hK0 : On M1 w := (hS.known hGC.1).on
              refine ⟨hK0, ?_⟩
              refine AL.one 18 rfl (by kernel_rfl) rfl (Stp.lit (vals := [(0, .slice qaa (c).length qac), (1, .slice qba (s).length qbc), (2, .slice qca (Tick.be8 f).length qcc), (3, .slice qda (Tick.be8 u).length qdc), (4, .slice qea (Tick.be8 e).length qec), (5, .slice qfa (Tick.be8 fl).length qfc)]) (cs := #[.slice qaa (c).length qac, .slice qba (s).length qbc, .slice qca (Tick.be8 f).length qcc, .slice qda (Tick.be8 u).length qdc, .slice qea (Tick.be8 e).length qec, .slice qfa (Tick.be8 fl).length qfc]) (e := 30) rfl rfl (fun _ => by kernel_rfl) rfl rfl hS ?_)
              intro b29 w hb29 hS hkp hnw
              have hF := hS.freezeG (i := 0) rfl hb29
              obtain ⟨MC, hG9, hlt, hS⟩ : ∃ M9, Grow w0.heap.size MC M9 ∧ M9 b29 = some (.cells #[.slice qaa (c).length qac, .slice qba (s).length qbc, .slice qca (Tick.be8 f).length qcc, .slice qda (Tick.be8 u).length qdc, .slice qea (Tick.be8 e).length qec, .slice qfa (Tick.be8 fl).length qfc] 30 (0, 0)) ∧ St w0 w M9 [] := ⟨_, hF.2, PH.add_self _ _ _, hF.1⟩
              have hGC := hGC.trans hG9
              have qa := qa.mono hG9.1
              have qb := qb.mono hG9.1
              have qc := qc.mono hG9.1
              have qd := qd.mono hG9.1
              have qe := qe.mono hG9.1
              have qf := qf.mono hG9.1
              have hK0 : On M1 w := (hS.known hGC.1).on
              refine ⟨hK0, ?_⟩
              refine AL.one 19 rfl (by kernel_rfl) rfl (Stp.callG (args := [_]) rfl rfl rfl cal76 rfl rfl hS (value_ok b29 0 6 [.slice qaa (c).length qac, .slice qba (s).length qbc, .slice qca (Tick.be8 f).length qcc, .slice qda (Tick.be8 u).length qdc, .slice qea (Tick.be8 e).length qec, .slice qfa (Tick.be8 fl).length qfc] [c, s, Tick.be8 f, Tick.be8 u, Tick.be8 e, Tick.be8 fl] _ _ hS.on (fun j x hj => by rw [Nat.zero_add]; exact PH.cell_of hlt (by rw [List.getElem?_toArray]; exact hj)) ⟨rfl, fun j hj => by
                rcases (by have hj' : j < 6 := hj; omega : j = 0 ∨ j = 1 ∨ j = 2 ∨ j = 3 ∨ j = 4 ∨ j = 5) with rfl | rfl | rfl | rfl | rfl | rfl
                · exact ⟨_, rfl, qa⟩
                · exact ⟨_, rfl, qb⟩
                · exact ⟨_, rfl, qc⟩
                · exact ⟨_, rfl, qd⟩
                · exact ⟨_, rfl, qe⟩
                · exact ⟨_, rfl, qf⟩⟩ (by show 0 < 6; decide) (by show 6 ≤ 255; decide) (by rw [Tick.enc_length]; simp only [List.map_cons, List.map_nil, List.sum_cons, List.sum_nil, Tick.be8_length]; have := hc.2; have := hs.2; omega)) ?_)
              rintro vv w MX hS hG9 hvv
              obtain ⟨MC, hMC⟩ : ∃ MC, MC = MX := ⟨_, rfl⟩
              subst hMC
              have hGC := hGC.trans hG9
              have hK0 : On M1 w := (hS.known hGC.1).on
              refine ⟨hK0, ?_⟩
              refine AL.take 20 rfl (by kernel_rfl) (by kernel_rfl) (by kernel_rfl) rfl rfl rfl hK0 (fun w hK => Res.assign rfl rfl) ?_
              refine AL.take 21 rfl (by kernel_rfl) (by kernel_rfl) (by kernel_rfl) rfl rfl rfl hK0 (fun w hK => Res.assign rfl rfl) ?_
              refine AL.done (by kernel_rfl) (Thn_n ?_)
              exact ⟨_, _, ⟨rfl, rfl, trivial⟩, hGC, hS, hvv⟩
            · refine Stp.callG (args := [_]) rfl rfl rfl cal77 rfl rfl hS (int8_ok fl _ _ hS.on (by omega)) ?_
              rintro yqf w MX hS hG9 qf
              obtain ⟨qfa, qfc, rfl, -, -, -, -⟩ := id qf
              obtain ⟨MC, hMC⟩ : ∃ MC, MC = MX := ⟨_, rfl⟩
              subst hMC
              have hGC := hGC.trans hG9
              try (have qa := qa.mono hG9.1)
              try (have qb := qb.mono hG9.1)
              try (have qc := qc.mono hG9.1)
              try (have qd := qd.mono hG9.1)
              try (have qe := qe.mono hG9.1)
              have hK0 : On M1 w := (hS.known hGC.1).on
              refine ⟨hK0, ?_⟩
              refine AL.one 5 rfl (by kernel_rfl) rfl (Stp.s2b (l := s) rfl rfl underlying9 underlying30 underlying5 (by omega) hS rfl rfl ?_)
              intro w yqb MX hS hG9 qb
              obtain ⟨qba, qbc, rfl, -, -, -, -⟩ := id qb
              obtain ⟨MC, hMC⟩ : ∃ MC, MC = MX := ⟨_, rfl⟩
              subst hMC
              have hGC := hGC.trans hG9
              try (have qa := qa.mono hG9.1)
              try (have qc := qc.mono hG9.1)
              try (have qd := qd.mono hG9.1)
              try (have qe := qe.mono hG9.1)
              try (have qf := qf.mono hG9.1)
              have hK0 : On M1 w := (hS.known hGC.1).on
              refine ⟨hK0, ?_⟩
              refine AL.one 18 rfl (by kernel_rfl) rfl (Stp.lit (vals := [(0, .slice qaa (c).length qac), (1, .slice qba (s).length qbc), (2, .slice qca (Tick.be8 f).length qcc), (3, .slice qda (Tick.be8 u).length qdc), (4, .slice qea (Tick.be8 e).length qec), (5, .slice qfa (Tick.be8 fl).length qfc)]) (cs := #[.slice qaa (c).length qac, .slice qba (s).length qbc, .slice qca (Tick.be8 f).length qcc, .slice qda (Tick.be8 u).length qdc, .slice qea (Tick.be8 e).length qec, .slice qfa (Tick.be8 fl).length qfc]) (e := 30) rfl rfl (fun _ => by kernel_rfl) rfl rfl hS ?_)
              intro b29 w hb29 hS hkp hnw
              have hF := hS.freezeG (i := 0) rfl hb29
              obtain ⟨MC, hG9, hlt, hS⟩ : ∃ M9, Grow w0.heap.size MC M9 ∧ M9 b29 = some (.cells #[.slice qaa (c).length qac, .slice qba (s).length qbc, .slice qca (Tick.be8 f).length qcc, .slice qda (Tick.be8 u).length qdc, .slice qea (Tick.be8 e).length qec, .slice qfa (Tick.be8 fl).length qfc] 30 (0, 0)) ∧ St w0 w M9 [] := ⟨_, hF.2, PH.add_self _ _ _, hF.1⟩
              have hGC := hGC.trans hG9
              have qa := qa.mono hG9.1
              have qb := qb.mono hG9.1
              have qc := qc.mono hG9.1
              have qd := qd.mono hG9.1
              have qe := qe.mono hG9.1
              have qf := qf.mono hG9.1
              have hK0 : On M1 w := (hS.known hGC.1).on
              refine ⟨hK0, ?_⟩
              refine AL.one 19 rfl (by kernel_rfl) rfl (Stp.callG (args := [_]) rfl rfl rfl cal76 rfl rfl hS (value_ok b29 0 6 [.slice qaa (c).length qac, .slice qba (s).length qbc, .slice qca (Tick.be8 f).length qcc, .slice qda (Tick.be8 u).length qdc, .slice qea (Tick.be8 e).length qec, .slice qfa (Tick.be8 fl).length qfc] [c, s, Tick.be8 f, Tick.be8 u, Tick.be8 e, Tick.be8 fl] _ _ hS.on (fun j x hj => by rw [Nat.zero_add]; exact PH.cell_of hlt (by rw [List.getElem?_toArray]; exact hj)) ⟨rfl, fun j hj => by
                rcases (by have hj' : j < 6 := hj; omega : j = 0 ∨ j = 1 ∨ j = 2 ∨ j = 3 ∨ j = 4 ∨ j = 5) with rfl | rfl | rfl | rfl | rfl | rfl
                · exact ⟨_, rfl, qa⟩
                · exact ⟨_, rfl, qb⟩
                · exact ⟨_, rfl, qc⟩
                · exact ⟨_, rfl, qd⟩
                · exact ⟨_, rfl, qe⟩
                · exact ⟨_, rfl, qf⟩⟩ (by show 0 < 6; decide) (by show 6 ≤ 255; decide) (by rw [Tick.enc_length]; simp only [List.map_cons, List.map_nil, List.sum_cons, List.sum_nil, Tick.be8_length]; have := hc.2; have := hs.2; omega)) ?_)
              rintro vv w MX hS hG9 hvv
              obtain ⟨MC, hMC⟩ : ∃ MC, MC = MX := ⟨_, rfl⟩
              subst hMC
              have hGC := hGC.trans hG9
              have hK0 : On M1 w := (hS.known hGC.1).on
              refine ⟨hK0, ?_⟩
              refine AL.take 20 rfl (by kernel_rfl) (by kernel_rfl) (by kernel_rfl) rfl rfl rfl hK0 (fun w hK => Res.assign rfl rfl) ?_
              refine AL.take 21 rfl (by kernel_rfl) (by kernel_rfl) (by kernel_rfl) rfl rfl rfl hK0 (fun w hK => Res.assign rfl rfl) ?_
              refine AL.done (by kernel_rfl) (Thn_n ?_)
              exact ⟨_, _, ⟨rfl, rfl, trivial⟩, hGC, hS, hvv⟩
          · refine Stp.s2b (l := s) rfl rfl underlying9 underlying30 underlying5 (by omega) hS rfl rfl ?_
            intro w yqb MX hS hG9 qb
            obtain ⟨qba, qbc, rfl, -, -, -, -⟩ := id qb
            obtain ⟨MC, hMC⟩ : ∃ MC, MC = MX := ⟨_, rfl⟩
            subst hMC
            have hGC := hGC.trans hG9
            try (have qa := qa.mono hG9.1)
            try (have qc := qc.mono hG9.1)
            try (have qd := qd.mono hG9.1)
            try (have qe := qe.mono hG9.1)
            try (have qf := qf.mono hG9.1)
            have hK0 : On M1 w := (hS.known hGC.1).on
            refine ⟨hK0, ?_⟩
            refine AL.two 2 17 rfl rfl (by kernel_rfl) rfl rfl ?_ ?_
            · refine Stp.s2b (l := c) rfl rfl underlying9 underlying30 underlying5 (by omega) hS rfl rfl ?_
              intro w yqa MX hS hG9 qa
              obtain ⟨qaa, qac, rfl, -, -, -, -⟩ := id qa
              obtain ⟨MC, hMC⟩ : ∃ MC, MC = MX := ⟨_, rfl⟩
              subst hMC
              have hGC := hGC.trans hG9
              try (have qb := qb.mono hG9.1)
              try (have qc := qc.mono hG9.1)
              try (have qd := qd.mono hG9.1)
              try (have qe := qe.mono hG9.1)
              try (have qf := qf.mono hG9.1)
              have hK0 : On M1 w := (hS.known hGC.1).on
              refine ⟨hK0, ?_⟩
              refine AL.one 17 rfl (by kernel_rfl) rfl (Stp.callG (args := [_]) rfl rfl rfl cal77 rfl rfl hS (int8_ok fl _ _ hS.on (by omega)) ?_)
              rintro yqf w MX hS hG9 qf
              obtain ⟨qfa, qfc, rfl, -, -, -, -⟩ := id qf
              obtain ⟨MC, hMC⟩ : ∃ MC, MC = MX := ⟨_, rfl⟩
              subst hMC
              have hGC := hGC.trans hG9
              try (have qa := qa.mono hG9.1)
              try (have qb := qb.mono hG9.1)
              try (have qc := qc.mono hG9.1)
              try (have qd := qd.mono hG9.1)
              try (have qe := qe.mono hG9.1)
              have hK0 : On M1 w := (hS.known hGC.1).on
              refine ⟨hK0, ?_⟩
              refine AL.one 18 rfl (by kernel_rfl) rfl (Stp.lit (vals := [(0, .slice qaa (c).length qac), (1, .slice qba (s).length qbc), (2, .slice qca (Tick.be8 f).length qcc), (3, .slice qda (Tick.be8 u).length qdc), (4, .slice qea (Tick.be8 e).length qec), (5, .slice qfa (Tick.be8 fl).length qfc)]) (cs := #[.slice qaa (c).length qac, .slice qba (s).length qbc, .slice qca (Tick.be8 f).length qcc, .slice qda (Tick.be8 u).length qdc, .slice qea (Tick.be8 e).length qec, .slice qfa (Tick.be8 fl).length qfc]) (e := 30) rfl rfl (fun _ => by kernel_rfl) rfl rfl hS ?_)
              intro b29 w hb29 hS hkp hnw
              have hF := hS.freezeG (i := 0) rfl hb29
              obtain ⟨MC, hG9, hlt, hS⟩ : ∃ M9, Grow w0.heap.size MC M9 ∧ M9 b29 = some (.cells #[.slice qaa (c).length qac, .slice qba (s).length qbc, .slice qca (Tick.be8 f).length qcc, .slice qda (Tick.be8 u).length qdc, .slice qea (Tick.be8 e).length qec, .slice qfa (Tick.be8 fl).length qfc] 30 (0, 0)) ∧ St w0 w M9 [] := ⟨_, hF.2, PH.add_self _ _ _, hF.1⟩
              have hGC := hGC.trans hG9
              have qa := qa.mono hG9.1
              have qb := qb.mono hG9.1
              have qc := qc.mono hG9.1
              have qd := qd.mono hG9.1
              have qe := qe.mono hG9.1
              have qf := qf.mono hG9.1
              have hK0 : On M1 w := (hS.known hGC.1).on
              refine ⟨hK0, ?_⟩
              refine AL.one 19 rfl (by kernel_rfl) rfl (Stp.callG (args := [_]) rfl rfl rfl cal76 rfl rfl hS (value_ok b29 0 6 [.slice qaa (c).length qac, .slice qba (s).length qbc, .slice qca (Tick.be8 f).length qcc, .slice qda (Tick.be8 u).length qdc, .slice qea (Tick.be8 e).length qec, .slice qfa (Tick.be8 fl).length qfc] [c, s, Tick.be8 f, Tick.be8 u, Tick.be8 e, Tick.be8 fl] _ _ hS.on (fun j x hj => by rw [Nat.zero_add]; exact PH.cell_of hlt (by rw [List.getElem?_toArray]; exact hj)) ⟨rfl, fun j hj => by
                rcases (by have hj' : j < 6 := hj; omega : j = 0 ∨ j = 1 ∨ j = 2 ∨ j = 3 ∨ j = 4 ∨ j = 5) with rfl | rfl | rfl | rfl | rfl | rfl
                · exact ⟨_, rfl, qa⟩
                · exact ⟨_, rfl, qb⟩
                · exact ⟨_, rfl, qc⟩
                · exact ⟨_, rfl, qd⟩
                · exact ⟨_, rfl, qe⟩
                · exact ⟨_, rfl, qf⟩⟩ (by show 0 < 6; decide) (by show 6 ≤ 255; decide) (by rw [Tick.enc_length]; simp only [List.map_cons, List.map_nil, List.sum_cons, List.sum_nil, Tick.be8_length]; have := hc.2; have := hs.2; omega)) ?_)
              rintro vv w MX hS hG9 hvv
              obtain ⟨MC, hMC⟩ : ∃ MC, MC = MX := ⟨_, rfl⟩
              subst hMC
              have hGC := hGC.trans hG9
              have hK0 : On M1 w := (hS.known hGC.1).on
              refine ⟨hK0, ?_⟩
              refine AL.take 20 rfl (by kernel_rfl) (by kernel_rfl) (by kernel_rfl) rfl rfl rfl hK0 (fun w hK => Res.assign rfl rfl) ?_
              refine AL.take 21 rfl (by kernel_rfl) (by kernel_rfl) (by kernel_rfl) rfl rfl rfl hK0 (fun w hK => Res.assign rfl rfl) ?_
              refine AL.done (by kernel_rfl) (Thn_n ?_)
              exact ⟨_, _, ⟨rfl, rfl, trivial⟩, hGC, hS, hvv⟩
            · refine Stp.callG (args := [_]) rfl rfl rfl cal77 rfl rfl hS (int8_ok fl _ _ hS.on (by omega)) ?_
              rintro yqf w MX hS hG9 qf
              obtain ⟨qfa, qfc, rfl, -, -, -, -⟩ := id qf
              obtain ⟨MC, hMC⟩ : ∃ MC, MC = MX := ⟨_, rfl⟩
              subst hMC
              have hGC := hGC.trans hG9
              try (have qa := qa.mono hG9.1)
              try (have qb := qb.mono hG9.1)
              try (have qc := qc.mono hG9.1)
              try (have qd := qd.mono hG9.1)
              try (have qe := qe.mono hG9.1)
              have hK0 : On M1 w := (hS.known hGC.1).on
              refine ⟨hK0, ?_⟩
              refine AL.one 2 rfl (by kernel_rfl) rfl (Stp.s2b (l := c) rfl rfl underlying9 underlying30 underlying5 (by omega) hS rfl rfl ?_)
              intro w yqa MX hS hG9 qa
              obtain ⟨qaa, qac, rfl, -, -, -, -⟩ := id qa
              obtain ⟨MC, hMC⟩ : ∃ MC, MC = MX := ⟨_, rfl⟩
              subst hMC
              have hGC := hGC.trans hG9
              try (have qb := qb.mono hG9.1)
              try (have qc := qc.mono hG9.1)
              try (have qd := qd.mono hG9.1)
              try (have qe := qe.mono hG9.1)
              try (have qf := qf.mono hG9.1)
              have hK0 : On M1 w := (hS.known hGC.1).on
              refine ⟨hK0, ?_⟩
              refine AL.one 18 rfl (by kernel_rfl) rfl (Stp.lit (vals := [(0, .slice qaa (c).length qac), (1, .slice qba (s).length qbc), (2, .slice qca (Tick.be8 f).length qcc), (3, .slice qda (Tick.be8 u).length qdc), (4, .slice qea (Tick.be8 e).length qec), (5, .slice qfa (Tick.be8 fl).length qfc)]) (cs := #[.slice qaa (c).length qac, .slice qba (s).length qbc, .slice qca (Tick.be8 f).length qcc, .slice qda (Tick.be8 u).length qdc, .slice qea (Tick.be8 e).length qec, .slice qfa (Tick.be8 fl).length qfc]) (e := 30) rfl rfl (fun _ => by kernel_rfl) rfl rfl hS ?_)
              intro b29 w hb29 hS hkp hnw
              have hF := hS.freezeG (i := 0) rfl hb29
              obtain ⟨MC, hG9, hlt, hS⟩ : ∃ M9, Grow w0.heap.size MC M9 ∧ M9 b29 = some (.cells #[.slice qaa (c).length qac, .slice qba (s).length qbc, .slice qca (Tick.be8 f).length qcc, .slice qda (Tick.be8 u).length qdc, .slice qea (Tick.be8 e).length qec, .slice qfa (Tick.be8 fl).length qfc] 30 (0, 0)) ∧ St w0 w M9 [] := ⟨_, hF.2, PH.add_self _ _ _, hF.1⟩
              have hGC := hGC.trans hG9
              have qa := qa.mono hG9.1
              have qb := qb.mono hG9.1
              have qc := qc.mono hG9.1
              have qd := qd.mono hG9.1
              have qe := qe.mono hG9.1
              have qf := qf.mono hG9.1
              have hK0 : On M1 w := (hS.known hGC.1).on
              refine ⟨hK0, ?_⟩
              refine AL.one 19 rfl (by kernel_rfl) rfl (Stp.callG (args := [_]) rfl rfl rfl cal76 rfl rfl hS (value_ok b29 0 6 [.slice qaa (c).length qac, .slice qba (s).length qbc, .slice qca (Tick.be8 f).length qcc, .slice qda (Tick.be8 u).length qdc, .slice qea (Tick.be8 e).length qec, .slice qfa (Tick.be8 fl).length qfc] [c, s, Tick.be8 f, Tick.be8 u, Tick.be8 e, Tick.be8 fl] _ _ hS.on (fun j x hj => by rw [Nat.zero_add]; exact PH.cell_of hlt (by rw [List.getElem?_toArray]; exact hj)) ⟨rfl, fun j hj => by
                rcases (by have hj' : j < 6 := hj; omega : j = 0 ∨ j = 1 ∨ j = 2 ∨ j = 3 ∨ j = 4 ∨ j = 5) with rfl | rfl | rfl | rfl | rfl | rfl
                · exact ⟨_, rfl, qa⟩
                · exact ⟨_, rfl, qb⟩
                · exact ⟨_, rfl, qc⟩
                · exact ⟨_, rfl, qd⟩
                · exact ⟨_, rfl, qe⟩
                · exact ⟨_, rfl, qf⟩⟩ (by show 0 < 6; decide) (by show 6 ≤ 255; decide) (by rw [Tick.enc_length]; simp only [List.map_cons, List.map_nil, List.sum_cons, List.sum_nil, Tick.be8_length]; have := hc.2; have := hs.2; omega)) ?_)
              rintro vv w MX hS hG9 hvv
              obtain ⟨MC, hMC⟩ : ∃ MC, MC = MX := ⟨_, rfl⟩
              subst hMC
              have hGC := hGC.trans hG9
              have hK0 : On M1 w := (hS.known hGC.1).on
              refine ⟨hK0, ?_⟩
              refine AL.take 20 rfl (by kernel_rfl) (by kernel_rfl) (by kernel_rfl) rfl rfl rfl hK0 (fun w hK => Res.assign rfl rfl) ?_
              refine AL.take 21 rfl (by kernel_rfl) (by kernel_rfl) (by kernel_rfl) rfl rfl rfl hK0 (fun w hK => Res.assign rfl rfl) ?_
              refine AL.done (by kernel_rfl) (Thn_n ?_)
              exact ⟨_, _, ⟨rfl, rfl, trivial⟩, hGC, hS, hvv⟩
          · refine Stp.callG (args := [_]) rfl rfl rfl cal77 rfl rfl hS (int8_ok fl _ _ hS.on (by omega)) ?_
            rintro yqf w MX hS hG9 qf
            obtain ⟨qfa, qfc, rfl, -, -, -, -⟩ := id qf
            obtain ⟨MC, hMC⟩ : ∃ MC, MC = MX := ⟨_, rfl⟩
            subst hMC
            have hGC := hGC.trans hG9
            try (have qa := qa.mono hG9.1)
            try (have qb := qb.mono hG9.1)
            try (have qc := qc.mono hG9.1)
            try (have qd := qd.mono hG9.1)
            try (have qe := qe.mono hG9.1)
            have hK0 : On M1 w := (hS.known hGC.1).on
            refine ⟨hK0, ?_⟩
            refine AL.two 2 5 rfl rfl (by kernel_rfl) rfl rfl ?_ ?_
            · refine Stp.s2b (l := c) rfl rfl underlying9 underlying30 underlying5 (by omega) hS rfl rfl ?_
              intro w yqa MX hS hG9 qa
              obtain ⟨qaa, qac, rfl, -, -, -, -⟩ := id qa
              obtain ⟨MC, hMC⟩ : ∃ MC, MC = MX := ⟨_, rfl⟩
              subst hMC
              have hGC := hGC.trans hG9
              try (have qb := qb.mono hG9.1)
              try (have qc := qc.mono hG9.1)
              try (have qd := qd.mono hG9.1)
              try (have qe := qe.mono hG9.1)
              try (have qf := qf.mono hG9.1)
              have hK0 : On M1 w := (hS.known hGC.1).on
              refine ⟨hK0, ?_⟩
              refine AL.one 5 rfl (by kernel_rfl) rfl (Stp.s2b (l := s) rfl rfl underlying9 underlying30 underlying5 (by omega) hS rfl rfl ?_)
              intro w yqb MX hS hG9 qb
              obtain ⟨qba, qbc, rfl, -, -, -, -⟩ := id qb
              obtain ⟨MC, hMC⟩ : ∃ MC, MC = MX := ⟨_, rfl⟩
              subst hMC
              have hGC := hGC.trans hG9
              try (have qa := qa.mono hG9.1)
              try (have qc := qc.mono hG9.1)
              try (have qd := qd.mono hG9.1)
              try (have qe := qe.mono hG9.1)
              try (have qf := qf.mono hG9.1)
              have hK0 : On M1 w := (hS.known hGC.1).on
              refine ⟨hK0, ?_⟩
              refine AL.one 18 rfl (by kernel_rfl) rfl (Stp.lit (vals := [(0, .slice qaa (c).length qac), (1, .slice qba (s).length qbc), (2, .slice qca (Tick.be8 f).length qcc), (3, .slice qda (Tick.be8 u).length qdc), (4, .slice qea (Tick.be8 e).length qec), (5, .slice qfa (Tick.be8 fl).length qfc)]) (cs := #[.slice qaa (c).length qac, .slice qba (s).length qbc, .slice qca (Tick.be8 f).length qcc, .slice qda (Tick.be8 u).length qdc, .slice qea (Tick.be8 e).length qec, .slice qfa (Tick.be8 fl).length qfc]) (e := 30) rfl rfl (fun _ => by kernel_rfl) rfl rfl hS ?_)
              intro b29 w hb29 hS hkp hnw
              have hF := hS.freezeG (i := 0) rfl hb29
              obtain ⟨MC, hG9, hlt, hS⟩ : ∃ M9, Grow w0.heap.size MC M9 ∧ M9 b29 = some (.cells #[.slice qaa (c).length qac, .slice qba (s).length qbc, .slice qca (Tick.be8 f).length qcc, .slice qda (Tick.be8 u).length qdc, .slice qea (Tick.be8 e).length qec, .slice qfa (Tick.be8 fl).length qfc] 30 (0, 0)) ∧ St w0 w M9 [] := ⟨_, hF.2, PH.add_self _ _ _, hF.1⟩
              have hGC := hGC.trans hG9
              have qa := qa.mono hG9.1
              have qb := qb.mono hG9.1
              have qc := qc.mono hG9.1
              have qd := qd.mono hG9.1
              have qe := qe.mono hG9.1
              have qf := qf.mono hG9.1
              have hK0 : On M1 w := (hS.known hGC.1).on
              refine ⟨hK0, ?_⟩
              refine AL.one 19 rfl (by kernel_rfl) rfl (Stp.callG (args := [_]) rfl rfl rfl cal76 rfl rfl hS (value_ok b29 0 6 [.slice qaa (c).length qac, .slice qba (s).length qbc, .slice qca (Tick.be8 f).length qcc, .slice qda (Tick.be8 u).length qdc, .slice qea (Tick.be8 e).length qec, .slice qfa (Tick.be8 fl).length qfc] [c, s, Tick.be8 f, Tick.be8 u, Tick.be8 e, Tick.be8 fl] _ _ hS.on (fun j x hj => by rw [Nat.zero_add]; exact PH.cell_of hlt (by rw [List.getElem?_toArray]; exact hj)) ⟨rfl, fun j hj => by
                rcases (by have hj' : j < 6 := hj; omega : j = 0 ∨ j = 1 ∨ j = 2 ∨ j = 3 ∨ j = 4 ∨ j = 5) with rfl | rfl | rfl | rfl | rfl | rfl
                · exact ⟨_, rfl, qa⟩
                · exact ⟨_, rfl, qb⟩
                · exact ⟨_, rfl, qc⟩
                · exact ⟨_, rfl, qd⟩
                · exact ⟨_, rfl, qe⟩
                · exact ⟨_, rfl, qf⟩⟩ (by show 0 < 6; decide) (by show 6 ≤ 255; decide) (by rw [Tick.enc_length]; simp only [List.map_cons, List.map_nil, List.sum_cons, List.sum_nil, Tick.be8_length]; have := hc.2; have := hs.2; omega)) ?_)
              rintro vv w MX hS hG9 hvv
              obtain ⟨MC, hMC⟩ : ∃ MC, MC = MX := ⟨_, rfl⟩
              subst hMC
              have hGC := hGC.trans hG9
              have hK0 : On M1 w := (hS.known hGC.1).on
              refine ⟨hK0, ?_⟩
              refine AL.take 20 rfl (by kernel_rfl) (by kernel_rfl) (by kernel_rfl) rfl rfl rfl hK0 (fun w hK => Res.assign rfl rfl) ?_
              refine AL.take 21 rfl (by kernel_rfl) (by kernel_rfl) (by kernel_rfl) rfl rfl rfl hK0 (fun w hK => Res.assign rfl rfl) ?_
              refine AL.done (by kernel_rfl) (Thn_n ?_)
              exact ⟨_, _, ⟨rfl, rfl, trivial⟩, hGC, hS, hvv⟩
            · refine Stp.s2b (l := s) rfl rfl underlying9 underlying30 underlying5 (by omega) hS rfl rfl ?_
              intro w yqb MX hS hG9 qb
              obtain ⟨qba, qbc, rfl, -, -, -, -⟩ := id qb
              obtain ⟨MC, hMC⟩ : ∃ MC, MC = MX := ⟨_, rfl⟩
              subst hMC
              have hGC := hGC.trans hG9
              try (have qa := qa.mono hG9.1)
              try (have qc := qc.mono hG9.1)
              try (have qd := qd.mono hG9.1)
              try (have qe := qe.mono hG9.1)
              try (have qf := qf.mono hG9.1)
              have hK0 : On M1 w := (hS.known hGC.1).on
              refine ⟨hK0, ?_⟩
              refine AL.one 2 rfl (by kernel_rfl) rfl (Stp.s2b (l := c) rfl rfl underlying9 underlying30 underlying5 (by omega) hS rfl rfl ?_)
              intro w yqa MX hS hG9 qa
              obtain ⟨qaa, qac, rfl, -, -, -, -⟩ := id qa
              obtain ⟨MC, hMC⟩ : ∃ MC, MC = MX := ⟨_, rfl⟩
              subst hMC
              have hGC := hGC.trans hG9
              try (have qb := qb.mono hG9.1)
              try (have qc := qc.mono hG9.1)
              try (have qd := qd.mono hG9.1)
              try (have qe := qe.mono hG9.1)
              try (have qf := qf.mono hG9.1)
              have hK0 : On M1 w := (hS.known hGC.1).on
              refine ⟨hK0, ?_⟩
              refine AL.one 18 rfl (by kernel_rfl) rfl (Stp.lit (vals := [(0, .slice qaa (c).length qac), (1, .slice qba (s).length qbc), (2, .slice qca (Tick.be8 f).length qcc), (3, .slice qda (Tick.be8 u).length qdc), (4, .slice qea (Tick.be8 e).length qec), (5, .slice qfa (Tick.be8 fl).length qfc)]) (cs := #[.slice qaa (c).length qac, .slice qba (s).length qbc, .slice qca (Tick.be8 f).length qcc, .slice qda (Tick.be8 u).length qdc, .slice qea (Tick.be8 e).length qec, .slice qfa (Tick.be8 fl).length qfc]) (e := 30) rfl rfl (fun _ => by kernel_rfl) rfl rfl hS ?_)
              intro b29 w hb29 hS hkp hnw
              have hF := hS.freezeG (i := 0) rfl hb29
              obtain ⟨MC, hG9, hlt, hS⟩ : ∃ M9, Grow w0.heap.size MC M9 ∧ M9 b29 = some (.cells #[.slice qaa (c).length qac, .slice qba (s).length qbc, .slice qca (Tick.be8 f).length qcc, .slice qda (Tick.be8 u).length qdc, .slice qea (Tick.be8 e).length qec, .slice qfa (Tick.be8 fl).length qfc] 30 (0, 0)) ∧ St w0 w M9 [] := ⟨_, hF.2, PH.add_self _ _ _, hF.1⟩
              have hGC := hGC.trans hG9
              have qa := qa.mono hG9.1
              have qb := qb.mono hG9.1
              have qc := qc.mono hG9.1
              have qd := qd.mono hG9.1
              have qe := qe.mono hG9.1
              have qf := qf.mono hG9.1
              have hK0 : On M1 w := (hS.known hGC.1).on
              refine ⟨hK0, ?_⟩
              refine AL.one 19 rfl (by kernel_rfl) rfl (Stp.callG (args := [_]) rfl rfl rfl cal76 rfl rfl hS (value_ok b29 0 6 [.slice qaa (c).length qac, .slice qba (s).length qbc, .slice qca (Tick.be8 f).length qcc, .slice qda (Tick.be8 u).length qdc, .slice qea (Tick.be8 e).length qec, .slice qfa (Tick.be8 fl).length qfc] [c, s, Tick.be8 f, Tick.be8 u, Tick.be8 e, Tick.be8 fl] _ _ hS.on (fun j x hj => by rw [Nat.zero_add]; exact PH.cell_of hlt (by rw [List.getElem?_toArray]; exact hj)) ⟨rfl, fun j hj => by
                rcases (by have hj' : j < 6 := hj; omega : j = 0 ∨ j = 1 ∨ j = 2 ∨ j = 3 ∨ j = 4 ∨ j = 5) with rfl | rfl | rfl | rfl | rfl | rfl
                · exact ⟨_, rfl, qa⟩
                · exact ⟨_, rfl, qb⟩
                · exact ⟨_, rfl, qc⟩
                · exact ⟨_, rfl, qd⟩
                · exact ⟨_, rfl, qe⟩
                · exact ⟨_, rfl, qf⟩⟩ (by show 0 < 6; decide) (by show 6 ≤ 255; decide) (by rw [Tick.enc_length]; simp only [List.map_cons, List.map_nil, List.sum_cons, List.sum_nil, Tick.be8_length]; have := hc.2; have := hs.2; omega)) ?_)
              rintro vv w MX hS hG9 hvv
              obtain ⟨MC, hMC⟩ : ∃ MC, MC = MX := ⟨_, rfl⟩
              subst hMC
              have hGC := hGC.trans hG9
              have hK0 : On M1 w := (hS.known hGC.1).on
              refine ⟨hK0, ?_⟩
              refine AL.take 20 rfl (by kernel_rfl) (by kernel_rfl) (by kernel_rfl) rfl rfl rfl hK0 (fun w hK => Res.assign rfl rfl) ?_
              refine AL.take 21 rfl (by kernel_rfl) (by kernel_rfl) (by kernel_rfl) rfl rfl rfl hK0 (fun w hK => Res.assign rfl rfl) ?_
              refine AL.done (by kernel_rfl) (Thn_n ?_)
              exact ⟨_, _, ⟨rfl, rfl, trivial⟩, hGC, hS, hvv⟩
  · rintro L2 w2 ⟨v, M5, hsub, hG5, hS, hvv⟩
    refine (Thn_n (CW.sub hsub ?_))
    refine CW.ret ?_
    exact fq_tmp2 rfl rfl rfl ⟨M5, hS, (hG1.trans hG5).1, (hG1.trans hG5).2, _, rfl, hvv⟩
end Go.Proofs.YtcmgimicdcchlaaGreatDoor
