/- Lemmas on the way to the statement; no condition of its own. -/
import Derived.Test.YtcmgimicdcchlaaGreatDoorZB1
set_option linter.unusedVariables false
set_option maxRecDepth 20000
namespace Go.Proofs.YtcmgimicdcchlaaGreatDoor
open Go.Proofs.Tryz
open Go Go.E
theorem rput_ok (v : Value) (ls : List (List UInt8)) (w0 : World) (M : PH) (hM : On M w0) (hv : Ft M v ls) (hn : ls.length ≤ 255) (hsz : (Tick.enc 0 ls).length ≤ 4096) : Ok Tryz.prog 79 #[v] w0 M (fun M' r => ∃ s, r = .tuple #[s, .int .i64 0] ∧ Bs M' s (Tick.enc 0 ls)) := by
  have hS := hM.st
  obtain ⟨fb, fc, rfl, f1, f2, f3⟩ := hv
  refine enterB (l := [.slice (some ⟨fb, 0, none⟩) ls.length fc]) 86 func79 rfl ntmps79 rfl ?_
  refine CW.seq ?_
  refine CW.region ?_
  refine WL.step rfl (Stp.res rfl rfl (Res.assign rfl rfl) ?_)
  refine WL.step rfl (Stp.res rfl rfl (Res.assign rfl rfl) ?_)
  refine WL.nil (Thn_n ?_)
  refine CW.seq ?_
  refine CW.seq ?_
  refine CW.region ?_
  refine WL.step rfl (Stp.res rfl rfl (Res.move rfl rfl) ?_)
  refine WL.step rfl (Stp.res rfl rfl (Res.len rfl rfl rfl rfl underlying114) ?_)
  refine WL.step rfl (Stp.res rfl rfl (Res.gtr rfl rfl rfl) ?_)
  refine WL.nil (Thn_n ?_)
  refine CW.iteF rfl (by omega) ?_
  refine CW.skip (Thn_n ?_)
  refine CW.seq ?_
  refine CW.region ?_
  refine WL.step rfl (Stp.res rfl rfl (Res.assign rfl rfl) ?_)
  refine WL.nil (Thn_n ?_)
  refine CW.seq ?_
  refine CW.seq ?_
  refine CW.region ?_
  refine WL.step rfl (Stp.res rfl rfl (Res.assign rfl rfl) ?_)
  refine WL.nil (Thn_n ?_)
  refine CW.block ?_
  refine CW.loop (σ := Nat) (fun i => [(0, .slice (some ⟨fb, 0, none⟩) ls.length fc), (4, .int .i64 (i : Int)), (5, .int .i64 (i : Int))])
    (fun i w' => i ≤ ls.length ∧ St w0 w' M []) (fun i => ls.length - i) 0 ⟨rfl, rfl, rfl, trivial⟩ ⟨by omega, hS⟩ ?_
  rintro i w1 ⟨hi, hS⟩
  refine CW.seq ?_
  refine CW.seq ?_
  refine CW.region ?_
  refine WL.step rfl (Stp.res rfl rfl (Res.move rfl rfl) ?_)
  refine WL.step rfl (Stp.res rfl rfl (Res.move rfl rfl) ?_)
  refine WL.step rfl (Stp.res rfl rfl (Res.len rfl rfl rfl rfl underlying114) ?_)
  refine WL.step rfl (Stp.res rfl rfl (Res.lss rfl rfl rfl) ?_)
  refine WL.nil (Thn_n ?_)
  refine CW.ite rfl (fun h2 => ?_) (fun h2 => ?_)
  · have hlt : i < ls.length := by omega
    obtain ⟨ya, yl, yc, e1, e2, e3⟩ := f3 i hlt
    obtain ⟨rfl, hy1, hy2⟩ := e3.len
    have hgl := Tick.getD_le (ls := ls) (j := i) (by omega)
    rw [show 2 * i = 0 + i * 2 + 0 by omega] at e1
    rw [show 2 * i + 1 = 0 + i * 2 + 1 by omega] at e2
    refine CW.skip (Thn_n ?_)
    refine CW.seq ?_
    refine CW.block ?_
    refine CW.seq ?_
    refine CW.seq ?_
    refine CW.region ?_
    refine WL.step rfl (Stp.res rfl rfl (Res.move rfl rfl) ?_)
    refine WL.step rfl (Stp.res rfl rfl (Res.move rfl rfl) ?_)
    refine WL.step rfl (Stp.res rfl rfl (Res.idxS 2 (k := i) rfl rfl rfl underlying114 sz113 (Int.toNat_natCast _) (by omega)) ?_)
    refine WL.step rfl (Stp.res rfl rfl (Res.fieldA rfl rfl underlying113 rfl (show SZ Tryz.prog _ 1 from sz3) (by decide)) ?_)
    refine WL.step rfl (Stp.res rfl rfl (Res.load1 (v := .int .i64 ((i + 1 : Nat) : Int)) rfl rfl underlying3 rfl (hS.cell e1)) ?_)
    refine WL.step rfl (Stp.res rfl rfl (Res.move rfl rfl) ?_)
    refine WL.step rfl (Stp.res rfl rfl (Res.toF (Res.leq rfl rfl rfl) (by omega)) ?_)
    refine WL.step rfl (Stp.res rfl rfl (Res.move rfl rfl) ?_)
    refine WL.stepG 7 false rfl rfl rfl rfl (Stp.res rfl rfl (Res.move rfl rfl) ?_)
    refine WL.stepG 7 false rfl rfl rfl rfl (Stp.res rfl rfl (Res.move rfl rfl) ?_)
    refine WL.stepG 7 false rfl rfl rfl rfl (Stp.res rfl rfl (Res.idxS 2 (k := i) rfl rfl rfl underlying114 sz113 (Int.toNat_natCast _) (by omega)) ?_)
    refine WL.stepG 7 false rfl rfl rfl rfl (Stp.res rfl rfl (Res.fieldA rfl rfl underlying113 rfl (show SZ Tryz.prog _ 1 from sz3) (by decide)) ?_)
    refine WL.stepG 7 false rfl rfl rfl rfl (Stp.res rfl rfl (Res.load1 (v := .int .i64 ((i + 1 : Nat) : Int)) rfl rfl underlying3 rfl (hS.cell e1)) ?_)
    refine WL.stepG 7 false rfl rfl rfl rfl (Stp.res rfl rfl (Res.toF (Res.gtr rfl rfl rfl) (by omega)) ?_)
    refine WL.step rfl (Stp.res rfl rfl (Res.pickF rfl rfl rfl) ?_)
    refine WL.step rfl (Stp.res rfl rfl (Res.move rfl rfl) ?_)
    refine WL.stepG 15 false rfl rfl rfl rfl (Stp.res rfl rfl (Res.move rfl rfl) ?_)
    refine WL.stepG 15 false rfl rfl rfl rfl (Stp.res rfl rfl (Res.move rfl rfl) ?_)
    refine WL.stepG 15 false rfl rfl rfl rfl (Stp.res rfl rfl (Res.idxS 2 (k := i) rfl rfl rfl underlying114 sz113 (Int.toNat_natCast _) (by omega)) ?_)
    refine WL.stepG 15 false rfl rfl rfl rfl (Stp.res rfl rfl (Res.fieldA rfl rfl underlying113 rfl (show SZ Tryz.prog _ 1 from sz30) (by decide)) ?_)
    refine WL.stepG 15 false rfl rfl rfl rfl (Stp.res rfl rfl (Res.load1 (v := .slice ya (ls.getD i []).length yc) rfl rfl underlying30 rfl (hS.cell e2)) ?_)
    refine WL.stepG 15 false rfl rfl rfl rfl (Stp.res rfl rfl (Res.len rfl rfl rfl rfl underlying30) ?_)
    refine WL.stepG 15 false rfl rfl rfl rfl (Stp.res rfl rfl (Res.toF (Res.gtr rfl rfl rfl) (by omega)) ?_)
    refine WL.step rfl (Stp.res rfl rfl (Res.pickF rfl rfl rfl) ?_)
    refine WL.nil (Thn_n ?_)
    refine CW.condF rfl ?_
    refine CW.skip (Thn_n ?_)
    refine CW.region ?_
    refine WL.step rfl (Stp.res rfl rfl (Res.move rfl rfl) ?_)
    refine WL.step rfl (Stp.res rfl rfl (Res.move rfl rfl) ?_)
    refine WL.step rfl (Stp.res rfl rfl (Res.idxS 2 (k := i) rfl rfl rfl underlying114 sz113 (Int.toNat_natCast _) (by omega)) ?_)
    refine WL.step rfl (Stp.res rfl rfl (Res.fieldA rfl rfl underlying113 rfl (show SZ Tryz.prog _ 1 from sz3) (by decide)) ?_)
    refine WL.step rfl (Stp.res rfl rfl (Res.load1 (v := .int .i64 ((i + 1 : Nat) : Int)) rfl rfl underlying3 rfl (hS.cell e1)) ?_)
    refine WL.step rfl (Stp.res rfl rfl (Res.assign rfl rfl) ?_)
    refine WL.nil (Blk_n (Thn_n ?_))
    refine CW.region ?_
    refine WL.step rfl (Stp.res rfl rfl (Res.move rfl rfl) ?_)
    refine WL.step rfl (Stp.res rfl rfl (Res.add rfl rfl rfl (by omega)) ?_)
    refine WL.step rfl (Stp.res rfl rfl (Res.assign rfl rfl) ?_)
    refine WL.nil (Thn_n ?_)
    exact ⟨i + 1, ⟨rfl, rfl, rfl, trivial⟩, ⟨by omega, hS⟩, by omega⟩
  · have hge : ls.length ≤ i := by omega
    refine CW.exit (Thn_x (Thn_x (Blk_x (Thn_n ?_))))
    refine CW.seq ?_
    refine CW.region ?_
    refine WL.step rfl (Stp.lit (vals := []) (cs := bs []) (e := 5) rfl rfl (fun _ => by kernel_rfl) rfl rfl hS ?_)
    intro b47 w hb47 hS hkp hnw
    refine WL.step rfl (Stp.res rfl rfl (Res.assign rfl rfl) ?_)
    refine WL.nil (Thn_n ?_)
    refine CW.seq ?_
    refine CW.seq ?_
    refine CW.region ?_
    refine WL.step rfl (Stp.res rfl rfl (Res.assign rfl rfl) ?_)
    refine WL.nil (Thn_n ?_)
    refine CW.block ?_
    refine CW.loop (σ := Nat × PH × Value × Owned) (fun s => [(0, .slice (some ⟨fb, 0, none⟩) ls.length fc), (6, s.2.2.1), (7, .int .i64 (s.1 : Int))])
      (fun s w' => s.1 ≤ ls.length ∧ Grow w0.heap.size M s.2.1 ∧ St w0 w' s.2.1 (s.2.2.2 ++ []) ∧ OwnB w0.heap.size s.2.2.2 s.2.2.1 (Tick.head ls s.1) 5) (fun s => ls.length - s.1) (0, M, _, [(b47, .cells (bs []) 5 (0, 0))]) ⟨rfl, rfl, rfl, trivial⟩ ⟨by dsimp only; omega, Grow.refl _ _, hS, OwnB.of hb47 (Nat.le_refl 0) (by omega) [] rfl rfl⟩ ?_
    rintro ⟨i, MJ, vj, g⟩ w2 ⟨hi, hGJ, hS, hown⟩
    dsimp only at hi hGJ hS hown ⊢
    refine CW.seq ?_
    refine CW.seq ?_
    refine CW.region ?_
    refine WL.step rfl (Stp.res rfl rfl (Res.move rfl rfl) ?_)
    refine WL.step rfl (Stp.res rfl rfl (Res.move rfl rfl) ?_)
    refine WL.step rfl (Stp.res rfl rfl (Res.len rfl rfl rfl rfl underlying114) ?_)
    refine WL.step rfl (Stp.res rfl rfl (Res.lss rfl rfl rfl) ?_)
    refine WL.nil (Thn_n ?_)
    refine CW.ite rfl (fun h3 => ?_) (fun h3 => ?_)
    · have hlt : i < ls.length := by omega
      obtain ⟨ya, yl, yc, e1, e2, e3⟩ := f3 i hlt
      obtain ⟨rfl, hy1, hy2⟩ := e3.len
      have hgl := Tick.getD_le (ls := ls) (j := i) (by omega)
      rw [show 2 * i = 0 + i * 2 + 0 by omega] at e1
      rw [show 2 * i + 1 = 0 + i * 2 + 1 by omega] at e2
      have hhl := Tick.head_len (ls := ls) (j := i) hlt
      have hhe := Tick.head_le ls (i + 1)
      refine CW.skip (Thn_n ?_)
      refine CW.seq ?_
      refine CW.block ?_
      refine CW.seq ?_
      refine CW.region ?_
      refine WL.step rfl (Stp.res rfl rfl (Res.move rfl rfl) ?_)
      refine WL.step rfl (Stp.res rfl rfl (Res.move rfl rfl) ?_)
      refine WL.step rfl (Stp.res rfl rfl (Res.idxS 2 (k := i) rfl rfl rfl underlying114 sz113 (Int.toNat_natCast _) (by omega)) ?_)
      refine WL.step rfl (Stp.res rfl rfl (Res.fieldA rfl rfl underlying113 rfl (show SZ Tryz.prog _ 1 from sz30) (by decide)) ?_)
      refine WL.step rfl (Stp.res rfl rfl (Res.load1 (v := .slice ya (ls.getD i []).length yc) rfl rfl underlying30 rfl (hS.cell (PH.cell_mono hGJ.1 e2))) ?_)
      refine WL.step rfl (Stp.res rfl rfl (Res.len rfl rfl rfl rfl underlying30) ?_)
      refine WL.step rfl (Stp.res rfl rfl (Res.assign rfl rfl) ?_)
      refine WL.nil (Thn_n ?_)
      refine CW.seq ?_
      refine CW.region ?_
      refine WL.step rfl (Stp.res rfl rfl (Res.move rfl rfl) ?_)
      refine WL.step rfl (Stp.res rfl rfl (Res.move rfl rfl) ?_)
      refine WL.step rfl (Stp.res rfl rfl (Res.move rfl rfl) ?_)
      refine WL.step rfl (Stp.res rfl rfl (Res.idxS 2 (k := i) rfl rfl rfl underlying114 sz113 (Int.toNat_natCast _) (by omega)) ?_)
      refine WL.step rfl (Stp.res rfl rfl (Res.fieldA rfl rfl underlying113 rfl (show SZ Tryz.prog _ 1 from sz3) (by decide)) ?_)
      refine WL.step rfl (Stp.res rfl rfl (Res.load1 (v := .int .i64 ((i + 1 : Nat) : Int)) rfl rfl underlying3 rfl (hS.cell (PH.cell_mono hGJ.1 e1))) ?_)
      refine WL.step rfl (Stp.res rfl rfl (Res.convB (k := i + 1) rfl rfl underlying3 underlying5) ?_)
      refine WL.step rfl (Stp.res rfl rfl (Res.move rfl rfl) ?_)
      refine WL.step rfl (Stp.res rfl rfl (Res.cast (Res.quo rfl rfl rfl (by omega)) (v' := .int .i64 (((ls.getD i []).length / 2 ^ 8 : Nat) : Int)) (by congr 1)) ?_)
      refine WL.step rfl (Stp.res rfl rfl (Res.convB (k := (ls.getD i []).length / 2 ^ 8) rfl rfl underlying3 underlying5) ?_)
      refine WL.step rfl (Stp.res rfl rfl (Res.move rfl rfl) ?_)
      refine WL.step rfl (Stp.res rfl rfl (Res.cast (Res.rem rfl rfl rfl (by omega)) (v' := .int .i64 (((ls.getD i []).length % 256 : Nat) : Int)) (by congr 1)) ?_)
      refine WL.step rfl (Stp.res rfl rfl (Res.cast (Res.convB (k := (ls.getD i []).length % 256) rfl rfl underlying3 underlying5) (v' := byte (UInt8.ofNat (ls.getD i []).length)) (by rw [Tick.ofNat_mod])) ?_)
      refine WL.step rfl (Stp.lit (vals := [(0, byte (UInt8.ofNat (i + 1))), (1, byte (UInt8.ofNat ((ls.getD i []).length / 2 ^ 8))), (2, byte (UInt8.ofNat (ls.getD i []).length))]) (cs := bs [(UInt8.ofNat (i + 1)), (UInt8.ofNat ((ls.getD i []).length / 2 ^ 8)), (UInt8.ofNat (ls.getD i []).length)]) (e := 5) rfl rfl (fun _ => by kernel_rfl) rfl rfl hS ?_)
      intro b73 w hb73 hS hkp hnw
      have hF := hS.freezeG (i := 0) rfl hb73
      obtain ⟨M5, hG5, hh, hS⟩ : ∃ M5, Grow w0.heap.size MJ M5 ∧ Bs M5 (.slice (some ⟨b73, 0, none⟩) 3 3) (Tick.hdr i (ls.getD i [])) ∧ St w0 w M5 (g ++ []) := ⟨_, hF.2, Bs.of' (PH.add_self _ _ _) rfl (by decide), hF.1⟩
      refine WL.step rfl (Stp.appendB (l := Tick.head ls i) (r := Tick.hdr i (ls.getD i [])) rfl rfl rfl rfl et30 (Src.ofBs underlying30 hS hh) hS hown (by simp only [Tick.hdr, List.length_cons, List.length_nil]; omega) rfl rfl ?_)
      intro v1 w g1 hS hown
      refine WL.step rfl (Stp.res rfl rfl (Res.assign rfl rfl) ?_)
      refine WL.nil (Thn_n ?_)
      refine CW.seq ?_
      refine CW.region ?_
      refine WL.step rfl (Stp.res rfl rfl (Res.move rfl rfl) ?_)
      refine WL.step rfl (Stp.res rfl rfl (Res.move rfl rfl) ?_)
      refine WL.step rfl (Stp.res rfl rfl (Res.move rfl rfl) ?_)
      refine WL.step rfl (Stp.res rfl rfl (Res.idxS 2 (k := i) rfl rfl rfl underlying114 sz113 (Int.toNat_natCast _) (by omega)) ?_)
      refine WL.step rfl (Stp.res rfl rfl (Res.fieldA rfl rfl underlying113 rfl (show SZ Tryz.prog _ 1 from sz30) (by decide)) ?_)
      refine WL.step rfl (Stp.res rfl rfl (Res.load1 (v := .slice ya (ls.getD i []).length yc) rfl rfl underlying30 rfl (hS.cell (PH.cell_mono (hGJ.trans hG5).1 e2))) ?_)
      refine WL.step rfl (Stp.appendB (l := Tick.head ls i ++ Tick.hdr i (ls.getD i [])) (r := ls.getD i []) rfl rfl rfl rfl et30 (Src.ofBs underlying30 hS (e3.mono (hGJ.trans hG5).1)) hS hown (by simp only [Tick.hdr, List.length_cons, List.length_nil, List.length_append]; omega) rfl rfl ?_)
      intro v2 w g2 hS hown
      rw [← Tick.head_succ hlt] at hown
      obtain ⟨za, zc, rfl, hz1, hz2⟩ := hown.slice
      refine WL.step rfl (Stp.res rfl rfl (Res.assign rfl rfl) ?_)
      refine WL.nil (Thn_n ?_)
      refine CW.seq ?_
      refine CW.region ?_
      refine WL.step rfl (Stp.res rfl rfl (Res.move rfl rfl) ?_)
      refine WL.step rfl (Stp.res rfl rfl (Res.len rfl rfl rfl rfl underlying30) ?_)
      refine WL.step rfl (Stp.res rfl rfl (Res.gtr rfl rfl rfl) ?_)
      refine WL.nil (Thn_n ?_)
      refine CW.iteF rfl (by omega) ?_
      refine CW.skip (Blk_n (Thn_n ?_))
      refine CW.region ?_
      refine WL.step rfl (Stp.res rfl rfl (Res.move rfl rfl) ?_)
      refine WL.step rfl (Stp.res rfl rfl (Res.add rfl rfl rfl (by omega)) ?_)
      refine WL.step rfl (Stp.res rfl rfl (Res.assign rfl rfl) ?_)
      refine WL.nil (Thn_n ?_)
      exact ⟨(i + 1, M5, _, g2), ⟨rfl, rfl, rfl, trivial⟩, ⟨by dsimp only; omega, hGJ.trans hG5, hS, hown⟩, by dsimp only; omega⟩
    · obtain rfl : i = ls.length := by omega
      refine CW.exit (Thn_x (Thn_x (Blk_x (Thn_n ?_))))
      refine CW.seq ?_
      refine CW.region ?_
      refine WL.step rfl (Stp.res rfl rfl (Res.move rfl rfl) ?_)
      refine WL.step rfl (Stp.res rfl rfl (Res.assign rfl rfl) ?_)
      refine WL.step rfl (Stp.res rfl rfl (Res.assign rfl rfl) ?_)
      refine WL.nil (Thn_n ?_)
      refine CW.ret ?_
      rw [Tick.head_all] at hown
      obtain ⟨M9, hS, hle9, hfr9, hfin⟩ := hown.give hS
      have hGA := hGJ.trans ⟨hle9, hfr9⟩
      exact fq_tmp2 rfl rfl rfl ⟨M9, hS, hGA.1, hGA.2, _, rfl, hfin⟩
end Go.Proofs.YtcmgimicdcchlaaGreatDoor
