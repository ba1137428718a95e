/- Lemmas on the way to the statement; no condition of its own. -/
import Derived.Test.YtcmgimicdcchlaaGreatDoorZB3
set_option linter.unusedVariables false
set_option maxRecDepth 20000
namespace Go.Proofs.YtcmgimicdcchlaaGreatDoor
open Go.Proofs.Tryz
open Go Go.E
theorem ranswer_no (kv cv : Value) (key conf c : List UInt8) (t z : Int) (w0 : World) (M : PH) (hM : On M w0) (hno : ¬ Tick.okAuth c t) : Ok Tryz.prog 47 #[kv, cv, .agg #[Go.E.str c, .int .i64 t, .int .i64 z]] w0 M (fun M' r => r = .tuple #[.slice none 0 0, .int .i64 200]) := by
  have hS := hM.st
  refine enterB (l := [kv, cv, .agg #[Go.E.str c, .int .i64 t, .int .i64 z]]) 32 func47 rfl ntmps47 rfl ?_
  refine CW.seq ?_
  refine CW.region ?_
  refine WL.step rfl (Stp.boxA rfl rfl rfl rfl hS ?_)
  intro b5 w hb5 hS hkp hnw
  refine WL.step rfl (Stp.res rfl rfl (Res.assign rfl rfl) ?_)
  refine WL.step rfl (Stp.res rfl rfl (Res.assign rfl rfl) ?_)
  refine WL.nil (Thn_n ?_)
  refine CW.seq ?_
  refine CW.seq ?_
  refine CW.region ?_
  refine WL.step rfl (Stp.res rfl rfl (Res.loadAll (cs := #[Go.E.str c, .int .i64 t, .int .i64 z]) rfl rfl underlying67 rfl (sz67) (hS.get (i := 0) rfl)) ?_)
  refine WL.step rfl (Stp.callG (args := [_]) rfl rfl rfl cal89 rfl rfl hS (rright_ok c t z _ _ hS.on) ?_)
  rintro _ w _ hS _ ⟨rfl, rfl⟩
  rw [decide_eq_false hno]
  refine WL.step rfl (Stp.res rfl rfl (Res.not rfl rfl rfl) ?_)
  refine WL.nil (Thn_n ?_)
  refine CW.condT rfl ?_
  refine CW.seq ?_
  refine CW.region ?_
  refine WL.step rfl (Stp.res rfl rfl (Res.assign rfl rfl) ?_)
  refine WL.step rfl (Stp.res rfl rfl (Res.assign rfl rfl) ?_)
  refine WL.nil (Thn_n ?_)
  refine CW.ret (Thn_r ?_)
  exact fq_tmp2 rfl rfl rfl ⟨M, hS.drop (i := 0) rfl hb5, PH.le.refl _, Fresh.refl _ _, rfl⟩
theorem ranswer_yes (kv cv : Value) (key conf c : List UInt8) (t z : Int) (w0 : World) (M : PH) (hM : On M w0) (hkey : Bs M kv key) (hconf : Bs M cv conf) (ht : Tick.inI t) (hz : Tick.inI z) (hok : Tick.okAuth c t) : Ok Tryz.prog 47 #[kv, cv, .agg #[Go.E.str c, .int .i64 t, .int .i64 z]] w0 M (fun M' r => ∃ v, r = .tuple #[v, .int .i64 (Seal.sealR key 12 conf (Tick.enc 0 (Tick.ansL t z))).2] ∧ Bs M' v (Seal.sealR key 12 conf (Tick.enc 0 (Tick.ansL t z))).1) := by
  have hS := hM.st
  refine enterB (l := [kv, cv, .agg #[Go.E.str c, .int .i64 t, .int .i64 z]]) 32 func47 rfl ntmps47 rfl ?_
  refine CW.seq ?_
  refine CW.region ?_
  refine WL.step rfl (Stp.boxA rfl rfl rfl rfl hS ?_)
  intro b5 w hb5 hS hkp hnw
  refine WL.step rfl (Stp.res rfl rfl (Res.assign rfl rfl) ?_)
  refine WL.step rfl (Stp.res rfl rfl (Res.assign rfl rfl) ?_)
  refine WL.nil (Thn_n ?_)
  refine CW.seq ?_
  refine CW.seq ?_
  have hF := hS.freezeG (i := 0) rfl hb5
  obtain ⟨M1, hG1, hbox, hS⟩ : ∃ M1, Grow w0.heap.size M M1 ∧ M1 b5 = some (.cells #[Go.E.str c, .int .i64 t, .int .i64 z] 67 (0, 0)) ∧ St w0 w M1 [] := ⟨_, hF.2, PH.add_self _ _ _, hF.1⟩
  refine CW.region ?_
  refine WL.step rfl (Stp.res rfl rfl (Res.loadAll (cs := #[Go.E.str c, .int .i64 t, .int .i64 z]) rfl rfl underlying67 rfl (sz67) (hS.on _ _ hbox)) ?_)
  refine WL.step rfl (Stp.callG (args := [_]) rfl rfl rfl cal89 rfl rfl hS (rright_ok c t z _ _ hS.on) ?_)
  rintro _ w _ hS _ ⟨rfl, rfl⟩
  rw [decide_eq_true hok]
  refine WL.step rfl (Stp.res rfl rfl (Res.not rfl rfl rfl) ?_)
  refine WL.nil (Thn_n ?_)
  refine CW.condF rfl ?_
  refine CW.skip (Thn_n ?_)
  refine CW.seq ?_
  obtain ⟨hc, hct⟩ := hok
  have hcl := hc.2
  obtain ⟨MC, hMC, hGC⟩ : ∃ MC, MC = M1 ∧ Grow w0.heap.size M1 MC := ⟨M1, rfl, Grow.refl _ _⟩
  rw [← hMC] at hS
  clear hMC
  have hS := hS.drew
  refine CW.post (fun L' w' => ∃ v M5, Sub [(0, kv), (1, cv), (8, v)] L' ∧ Grow w0.heap.size M1 M5 ∧ St w0 w' M5 [] ∧ Bs M5 v (Tick.enc 0 (Tick.ansL t z))) ?_ ?_
  · have hK0 := (hS.known hGC.1).on
    refine CW.held (fun w => On M1 w) mixed ?_
    refine AL.take 0 rfl (by kernel_rfl) (by kernel_rfl) (by kernel_rfl) rfl rfl rfl hK0 (fun w hK => Res.fieldA rfl rfl underlying67 rfl (show SZ Tryz.prog _ 1 from sz3) (by decide)) ?_
    refine AL.take 1 rfl (by kernel_rfl) (by kernel_rfl) (by kernel_rfl) rfl rfl rfl hK0 (fun w hK => Res.load1 (v := .int .i64 t) rfl rfl underlying3 rfl (w := w) (hK.st.cell (PH.cell_of hbox rfl))) ?_
    refine AL.take 4 rfl (by kernel_rfl) (by kernel_rfl) (by kernel_rfl) rfl rfl rfl hK0 (fun w hK => Res.fieldA rfl rfl underlying67 rfl (show SZ Tryz.prog _ 1 from sz3) (by decide)) ?_
    refine AL.take 5 rfl (by kernel_rfl) (by kernel_rfl) (by kernel_rfl) rfl rfl rfl hK0 (fun w hK => Res.load1 (v := .int .i64 z) rfl rfl underlying3 rfl (w := w) (hK.st.cell (PH.cell_of hbox rfl))) ?_
    refine AL.one 2 rfl (by kernel_rfl) rfl (Stp.callG (args := [_]) rfl rfl rfl cal80 rfl rfl hS (rint_ok (t) _ _ hS.on ht) ?_)
    rintro yqc w MX hS hG9 qc
    obtain ⟨qca, qcc, rfl, -, -, -, -⟩ := id qc
    obtain ⟨MC, hMC⟩ : ∃ MC, MC = MX := ⟨_, rfl⟩
    subst hMC
    have hGC := hGC.trans hG9
    try (have qd := qd.mono hG9.1)
    have hK0 : On M1 w := (hS.known hGC.1).on
    refine ⟨hK0, ?_⟩
    refine AL.take 3 rfl (by kernel_rfl) (by kernel_rfl) (by kernel_rfl) rfl rfl rfl hK0 (fun w hK => Res.build (vals := [(0, .int .i64 1), (1, .slice qca (Tick.be8 (Tick.bits t)).length qcc)]) (cs := #[.int .i64 1, .slice qca (Tick.be8 (Tick.bits t)).length qcc]) rfl rfl (fun _ => by kernel_rfl)) ?_
    refine AL.one 6 rfl (by kernel_rfl) rfl (Stp.callG (args := [_]) rfl rfl rfl cal80 rfl rfl hS (rint_ok (z) _ _ hS.on hz) ?_)
    rintro yqd w MX hS hG9 qd
    obtain ⟨qda, qdc, rfl, -, -, -, -⟩ := id qd
    obtain ⟨MC, hMC⟩ : ∃ MC, MC = MX := ⟨_, rfl⟩
    subst hMC
    have hGC := hGC.trans hG9
    try (have qc := qc.mono hG9.1)
    have hK0 : On M1 w := (hS.known hGC.1).on
    refine ⟨hK0, ?_⟩
    refine AL.take 7 rfl (by kernel_rfl) (by kernel_rfl) (by kernel_rfl) rfl rfl rfl hK0 (fun w hK => Res.build (vals := [(0, .int .i64 2), (1, .slice qda (Tick.be8 (Tick.bits z)).length qdc)]) (cs := #[.int .i64 2, .slice qda (Tick.be8 (Tick.bits z)).length qdc]) rfl rfl (fun _ => by kernel_rfl)) ?_
    refine AL.one 8 rfl (by kernel_rfl) rfl (Stp.lit (vals := [(0, .agg #[.int .i64 1, .slice qca (Tick.be8 (Tick.bits t)).length qcc]), (1, .agg #[.int .i64 2, .slice qda (Tick.be8 (Tick.bits z)).length qdc])]) (cs := #[.int .i64 1, .slice qca (Tick.be8 (Tick.bits t)).length qcc, .int .i64 2, .slice qda (Tick.be8 (Tick.bits z)).length qdc]) (e := 113) rfl rfl (fun _ => by kernel_rfl) rfl rfl hS ?_)
    intro b22 w hb22 hS hkp hnw
    have hF := hS.freezeG (i := 0) rfl hb22
    obtain ⟨MC, hG9, hlt, hS⟩ : ∃ M9, Grow w0.heap.size MC M9 ∧ M9 b22 = some (.cells #[.int .i64 1, .slice qca (Tick.be8 (Tick.bits t)).length qcc, .int .i64 2, .slice qda (Tick.be8 (Tick.bits z)).length qdc] 113 (0, 0)) ∧ St w0 w M9 [] := ⟨_, hF.2, PH.add_self _ _ _, hF.1⟩
    have hGC := hGC.trans hG9
    have qc := qc.mono hG9.1
    have qd := qd.mono hG9.1
    have hft : Ft MC (.slice (some ⟨b22, 0, none⟩) 2 2) (Tick.ansL t z) := ⟨b22, _, rfl, by show 2 ≤ 2; omega, by decide, fun j hj => by
      rcases (by have hj' : j < 2 := hj; omega : j = 0 ∨ j = 1) with rfl | rfl
      · exact ⟨_, _, _, PH.cell_of hlt rfl, PH.cell_of hlt rfl, qc⟩
      · exact ⟨_, _, _, PH.cell_of hlt rfl, PH.cell_of hlt rfl, qd⟩⟩
    have hK0 : On M1 w := (hS.known hGC.1).on
    refine ⟨hK0, ?_⟩
    refine AL.one 9 rfl (by kernel_rfl) rfl (Stp.callG (args := [_]) rfl rfl rfl cal79 rfl rfl hS (rput_ok _ (Tick.ansL t z) _ _ hS.on hft (by show 2 ≤ 255; decide) (Tick.ans_le t z)) ?_)
    rintro _ w MX hS hG9 ⟨vv, rfl, hvv⟩
    obtain ⟨MC, hMC⟩ : ∃ MC, MC = MX := ⟨_, rfl⟩
    subst hMC
    have hGC := hGC.trans hG9
    have hK0 : On M1 w := (hS.known hGC.1).on
    refine ⟨hK0, ?_⟩
    refine AL.take 10 rfl (by kernel_rfl) (by kernel_rfl) (by kernel_rfl) rfl rfl rfl hK0 (fun w hK => Res.move rfl rfl) ?_
    refine AL.take 11 rfl (by kernel_rfl) (by kernel_rfl) (by kernel_rfl) rfl rfl rfl hK0 (fun w hK => Res.extract (l := [_, _]) rfl rfl rfl) ?_
    refine AL.take 12 rfl (by kernel_rfl) (by kernel_rfl) (by kernel_rfl) rfl rfl rfl hK0 (fun w hK => Res.extract (l := [_, _]) rfl rfl rfl) ?_
    refine AL.take 13 rfl (by kernel_rfl) (by kernel_rfl) (by kernel_rfl) rfl rfl rfl hK0 (fun w hK => Res.assign rfl rfl) ?_
    refine AL.take 14 rfl (by kernel_rfl) (by kernel_rfl) (by kernel_rfl) rfl rfl rfl hK0 (fun w hK => Res.assign rfl rfl) ?_
    refine AL.done (by kernel_rfl) (Thn_n ?_)
    exact ⟨_, _, ⟨rfl, rfl, rfl, trivial⟩, hGC, hS, hvv⟩
  · rintro L2 w2 ⟨v, M5, hsub, hG5, hS, hvv⟩
    refine (Thn_n (CW.sub hsub ?_))
    refine CW.seq ?_
    refine CW.region ?_
    refine WL.step rfl (Stp.res rfl rfl (Res.move rfl rfl) ?_)
    refine WL.step rfl (Stp.res rfl rfl (Res.move rfl rfl) ?_)
    refine WL.step rfl (Stp.res rfl rfl (Res.move rfl rfl) ?_)
    refine WL.step rfl (Stp.callG (args := [_, _, _, _]) rfl rfl rfl cal90 rfl rfl hS (qseal_all _ _ _ key conf (Tick.enc 0 (Tick.ansL t z)) 12 _ _ hS.on (hkey.mono (hG1.trans hG5).1) (hconf.mono (hG1.trans hG5).1) hvv) ?_)
    rintro _ w M6 hS hG6 ⟨sv, rfl, hsv⟩
    refine WL.step rfl (Stp.res rfl rfl (Res.extract (l := [_, _]) rfl rfl rfl) ?_)
    refine WL.step rfl (Stp.res rfl rfl (Res.extract (l := [_, _]) rfl rfl rfl) ?_)
    refine WL.step rfl (Stp.res rfl rfl (Res.assign rfl rfl) ?_)
    refine WL.step rfl (Stp.res rfl rfl (Res.assign rfl rfl) ?_)
    refine WL.nil (Thn_n ?_)
    refine CW.ret ?_
    have hGA := (hG1.trans hG5).trans hG6
    exact fq_tmp2 rfl rfl rfl ⟨M6, hS, hGA.1, hGA.2, _, rfl, hsv⟩
theorem ranswer_all (kv cv : Value) (key conf c : List UInt8) (t z : Int) (w0 : World) (M : PH) (hM : On M w0) (hkey : Bs M kv key) (hconf : Bs M cv conf) (ht : Tick.inI t) (hz : Tick.inI z) : Ok Tryz.prog 47 #[kv, cv, .agg #[Go.E.str c, .int .i64 t, .int .i64 z]] w0 M (fun M' r => ∃ v, r = .tuple #[v, .int .i64 (Tick.answerA key conf c t z).2] ∧ Bs M' v (Tick.answerA key conf c t z).1) := by
  by_cases hok : Tick.okAuth c t
  · rw [Tick.answerA, if_pos hok]
    exact ranswer_yes kv cv key conf c t z w0 M hM hkey hconf ht hz hok
  · rw [Tick.answerA, if_neg hok]
    exact (ranswer_no kv cv key conf c t z w0 M hM hok).imp fun M' r _ h => ⟨_, h, Bs.nil _⟩
theorem bbytes_ok (v : Value) (l : List UInt8) (w0 : World) (M : PH) (hM : On M w0) (hl : Bs M v l) (hlen : l.length ≤ 140737488355328) : Ok Tryz.prog 36 #[v] w0 M (fun M' r => Bs M' r l) := by
  have hS := hM.st
  refine enterB (l := [v]) 6 func36 rfl ntmps36 rfl ?_
  refine CW.seq ?_
  refine CW.region ?_
  refine WL.step rfl (Stp.res rfl rfl (Res.assign rfl rfl) ?_)
  refine WL.nil (Thn_n ?_)
  refine CW.seq ?_
  refine CW.region ?_
  refine WL.step rfl (Stp.lit (vals := []) (cs := bs []) (e := 5) rfl rfl (fun _ => by kernel_rfl) rfl rfl hS ?_)
  intro b3 w hb3 hS hkp hnw
  refine WL.step rfl (Stp.res rfl rfl (Res.move rfl rfl) ?_)
  refine WL.step rfl (Stp.appendB (l := []) (r := l) rfl rfl rfl rfl et30 (Src.ofBs underlying30 hS hl) hS (OwnB.of hb3 (Nat.le_refl 0) (by omega) [] rfl rfl) (by simpa using hlen) rfl rfl ?_)
  intro v' w g' hS hown
  change OwnB w0.heap.size g' v' l 5 at hown
  refine WL.step rfl (Stp.res rfl rfl (Res.assign rfl rfl) ?_)
  refine WL.nil (Thn_n ?_)
  refine CW.ret ?_
  obtain ⟨M9, hS, hle9, hfr9, hfin⟩ := hown.give hS
  exact fq_tmp rfl rfl ⟨M9, hS, hle9, hfr9, hfin⟩
theorem cut20_ok (v : Value) (l : List UInt8) (n : Nat) (w0 : World) (M : PH) (hM : On M w0) (hl : Bs M v l) (hn : n ≤ 10000) : Ok Tryz.prog 32 #[v, .int .i64 (n : Int)] w0 M (fun M' r => Bs M' r (l.take n)) := by
  have hS := hM.st
  have hv0 := hl
  obtain ⟨va, vc, rfl, v1, v2, v3, v4⟩ := hl
  have htk := hv0.take (h := min l.length n) (by omega)
  rw [show l.take (min l.length n) = l.take n by rw [Nat.min_comm, ← List.take_take, List.take_of_length_le (Nat.le_refl l.length)]] at htk
  refine enterB (l := [.slice va l.length vc, .int .i64 (n : Int)]) 12 func32 rfl ntmps32 rfl ?_
  refine CW.seq ?_
  refine CW.region ?_
  refine WL.step rfl (Stp.res rfl rfl (Res.assign rfl rfl) ?_)
  refine WL.nil (Thn_n ?_)
  refine CW.seq ?_
  refine CW.region ?_
  refine WL.step rfl (Stp.res rfl rfl (Res.move rfl rfl) ?_)
  refine WL.step rfl (Stp.res rfl rfl (Res.move rfl rfl) ?_)
  refine WL.step rfl (Stp.res rfl rfl (Res.len rfl rfl rfl rfl underlying30) ?_)
  refine WL.step rfl (Stp.res rfl rfl (Res.move rfl rfl) ?_)
  refine WL.step rfl (Stp.res rfl rfl (Res.minN rfl rfl rfl) ?_)
  refine WL.step rfl (Stp.res rfl rfl (Res.sliceHi (h := min l.length n) rfl rfl rfl underlying30 sz5 (by omega)) ?_)
  refine WL.step rfl (Stp.callG (args := [_]) rfl rfl rfl cal36 rfl rfl hS (bbytes_ok _ (l.take n) _ _ hS.on htk (by simp; omega)) ?_)
  rintro rv w M9 hS hG9 hr
  refine WL.step rfl (Stp.res rfl rfl (Res.assign rfl rfl) ?_)
  refine WL.nil (Thn_n ?_)
  refine CW.ret ?_
  exact fq_tmp rfl rfl ⟨M9, hS, hG9.1, hG9.2, hr⟩
end Go.Proofs.YtcmgimicdcchlaaGreatDoor
