/- Lemmas on the way to the statement; no condition of its own. -/
import Derived.Test.YtcmgimicdcchlaaGreatDoorQH1
set_option linter.unusedSimpArgs false
set_option linter.unusedVariables false
set_option maxRecDepth 20000
namespace Go.Proofs.YtcmgimicdcchlaaGreatDoor
open Go.Proofs.Tryz
open Go Go.E Go.Trm
def TbR (M : PH) : Option (List UInt8) → Value → Prop
  | some b, r => ∃ a c, r = .tuple #[.slice a b.length c, .nilIface] ∧ Bs M (.slice a b.length c) b
  | none, r => ∃ e k, r = .tuple #[.slice none 0 0, .iface 128 (.pointer (some ⟨e, 0, none⟩))] ∧ Kb M e (.cells #[.int .i64 k, .int .i64 290] 130 (0, 0))
def TpR (M : PH) : Option (List (List UInt8)) → Value → Prop
  | some l, r => ∃ a c, r = .tuple #[.slice a l.length c, .nilIface] ∧ Ls M (.slice a l.length c) l
  | none, r => ∃ e k, r = .tuple #[.slice none 0 0, .iface 128 (.pointer (some ⟨e, 0, none⟩))] ∧ Kb M e (.cells #[.int .i64 k, .int .i64 290] 130 (0, 0))
def RbR (M : PH) (z : Int) : Option (List UInt8) → Value → Prop
  | some b, r => ∃ a c, r = .tuple #[.slice a b.length c, .int .i64 0] ∧ Bs M (.slice a b.length c) b
  | none, r => r = .tuple #[.slice none 0 0, .int .i64 z]
def BytesC (f : FuncId) (t : T) : Prop := ∀ (da1 : Option Addr) (dc1 : Nat) (la1 : Option Addr) (lc1 : Nat) (w0 : World) (M : PH) (_ : On M w0) (_ : GL M) (hd1 : Bs M (.slice da1 t.data.length dc1) t.data) (hs1 : Ts M (.slice la1 t.subs.length lc1) t.subs) (_ : Fine t), Ok Tryz.prog f #[.agg (TV t da1 dc1 la1 lc1)] w0 M (fun M' r => TbR M' (tbytes t) r)
def PartsC (f : FuncId) (t : T) : Prop := ∀ (da1 : Option Addr) (dc1 : Nat) (la1 : Option Addr) (lc1 : Nat) (w0 : World) (M : PH) (_ : On M w0) (_ : GL M) (hd1 : Bs M (.slice da1 t.data.length dc1) t.data) (hs1 : Ts M (.slice la1 t.subs.length lc1) t.subs) (_ : Fine t), Ok Tryz.prog f #[.agg (TV t da1 dc1 la1 lc1)] w0 M (fun M' r => TpR M' (tbytesL t.subs) r)
def RbytesC (f : FuncId) (t : T) : Prop := ∀ (da1 : Option Addr) (dc1 : Nat) (la1 : Option Addr) (lc1 : Nat) (w0 : World) (M : PH) (_ : On M w0) (hd1 : Bs M (.slice da1 t.data.length dc1) t.data) (hs1 : Ts M (.slice la1 t.subs.length lc1) t.subs) (_ : Fine t), Ok Tryz.prog f #[.agg (TV t da1 dc1 la1 lc1)] w0 M (fun M' r => RbR M' 290 (tbytes t) r)
theorem cal100 : Callable Tryz.prog 100 := ⟨Tryz.f100, func100, rfl, by kernel_rfl⟩
theorem cal101 : Callable Tryz.prog 101 := ⟨Tryz.f101, func101, rfl, by kernel_rfl⟩
theorem cal102 : Callable Tryz.prog 102 := ⟨Tryz.f102, func102, rfl, by kernel_rfl⟩
theorem cal103 : Callable Tryz.prog 103 := ⟨Tryz.f103, func103, rfl, by kernel_rfl⟩
theorem cal66 : Callable Tryz.prog 66 := ⟨Tryz.f66, func66, rfl, by kernel_rfl⟩
theorem cal92 : Callable Tryz.prog 92 := ⟨Tryz.f92, func92, rfl, by kernel_rfl⟩
theorem tparts_step (t : T) (ih : ∀ t', size t' < size t → BytesC 66 t') : PartsC 101 t := by
  intro da1 dc1 la1 lc1 w0 M hM hgl hd1 hs1 hf
  have hS := hM.st
  have hfi := fine_iff.1 hf
  obtain ⟨hf1, hf2, hf3, hf4⟩ := id hfi
  clear hfi
  have hbl := hs1.len
  refine enterB (l := [.agg (TV (t) da1 dc1 la1 lc1)]) 30 func101 rfl ntmps101 rfl ?_
  refine CW.seq ?_
  refine CW.region ?_
  refine WL.step rfl (Stp.boxA (cs := TV (t) da1 dc1 la1 lc1) rfl rfl rfl rfl hS ?_)
  intro b1_0 w hbb1_0 hS hkp hnw
  obtain ⟨M2, hG2, hbb1_0_2, hS⟩ : ∃ Mx, Grow w0.heap.size M Mx ∧ Kb Mx b1_0 (.cells (TV (t) da1 dc1 la1 lc1) 35 (0, 0)) ∧ St w0 w Mx ([]) := by
    have hF := hS.freezeG (i := 0) rfl hbb1_0
    exact ⟨_, hF.2, PH.add_self _ _ _, hF.1⟩
  refine WL.step rfl (Stp.res rfl rfl (Res.assign rfl rfl) ?_)
  refine WL.step rfl (Stp.res rfl rfl (Res.assign rfl rfl) ?_)
  refine WL.nil (Thn_n ?_)
  refine CW.seq ?_
  refine CW.region ?_
  refine WL.step rfl (Stp.res rfl rfl (Res.assign rfl rfl) ?_)
  refine WL.nil (Thn_n ?_)
  refine CW.seq ?_
  refine CW.seq ?_
  refine CW.region ?_
  refine WL.step rfl (Stp.res rfl rfl (Res.fieldA rfl rfl underlying35 rfl (show SZ Tryz.prog _ 1 from sz22) (by decide)) ?_)
  refine WL.step rfl (Stp.res rfl rfl (Res.load1 (v := .slice (la1) (t.subs.length) (lc1)) rfl rfl underlying22 rfl (hS.cell (PH.cell_of hbb1_0_2 rfl))) ?_)
  refine WL.step rfl (Stp.res rfl rfl (Res.len rfl rfl rfl rfl underlying22) ?_)
  refine WL.step rfl (Stp.res rfl rfl (Res.move rfl rfl) ?_)
  refine WL.nil (Thn_n ?_)
  refine CW.block ?_
  refine CW.loop (σ := Nat × List (List UInt8) × Owned × Option Addr × Nat × PH) (fun s => [(4, .slice ((s.2.2.2.1)) ((s.2.1).length) ((s.2.2.2.2.1))), (10, .slice (la1) (t.subs.length) (lc1)), (11, .int .i64 ((t.subs.length : Nat) : Int)), (12, .int .i64 (((s.1) : Nat) : Int))])
    (fun s w' => (s.1) ≤ t.subs.length ∧ tbytesL (t.subs.take (s.1)) = some (s.2.1) ∧ Grow w0.heap.size M2 (s.2.2.2.2.2) ∧ OwnL (s.2.2.2.2.2) w0.heap.size (s.2.2.1) (.slice (s.2.2.2.1) (s.2.1).length (s.2.2.2.2.1)) (s.2.1) 30 ∧ St w0 w' (s.2.2.2.2.2) ((s.2.2.1) ++ ([]))) (fun s => t.subs.length - (s.1)) (0, [], ([] : Owned), none, 0, M2) ⟨rfl, rfl, rfl, rfl, trivial⟩ ⟨by dsimp only; omega, by rw [List.take_zero]; rfl, Grow.refl _ _, OwnL.nil _ _ _, hS⟩ ?_
  rintro ⟨i, acc, g, oa, oc, M3⟩ w ⟨hi, hacc, hG3, hown, hS⟩
  dsimp only at hi hacc hG3 hown hS ⊢
  refine CW.seq ?_
  refine CW.region ?_
  refine WL.step rfl (Stp.res rfl rfl (Res.lss rfl rfl rfl) ?_)
  refine WL.nil (Thn_n ?_)
  refine CW.seq ?_
  refine CW.ite rfl (fun hc4 => ?_) (fun hc4 => ?_)
  · refine CW.skip (Thn_n ?_)
    refine CW.seq ?_
    refine CW.block ?_
    refine CW.seq ?_
    refine CW.region ?_
    obtain ⟨be5, oe5, dae5, dce5, sae5, sce5, eae5, hce5, hde5, hse5⟩ := Ts2.get (j := i) hs1 (by omega)
    have hne5 := hse5.len
    refine WL.step rfl (Stp.res rfl rfl (Res.idxT 5 (k := i) rfl rfl eae5 rfl underlying22 sz35 (Int.toNat_natCast _) (by omega)) ?_)
    refine WL.step rfl (Stp.res rfl rfl (Res.loadN (r := (TV ((t.subs.getD i T0)) dae5 dce5 sae5 sce5).toList) rfl rfl underlying35 rfl sz35 rfl (fun j u hu => hS.cell (PH.cell_mono (hG2.trans hG3).1 (hce5 j u hu)))) ?_)
    refine WL.step rfl (Stp.alloc (cs := #[.int .i64 ((0 : Nat) : Int), .slice (none) (0) (0), Go.E.str ([]), .int .i64 ((0 : Nat) : Int), .slice (none) (0) (0)]) rfl zt35 rfl rfl rfl hS ?_)
    intro b6_5 w hbb6_5 hS hkp hnw
    refine WL.step rfl (Stp.storeAll 0 rfl rfl rfl (sz35) (Tm.of (hde5.mono (hG2.trans hG3).1) (hse5.mono (hG2.trans hG3).1)).one rfl hS rfl rfl ?_)
    intro w hS hpt
    change St w0 _ M3 ((b6_5, .cells (TV ((t.subs.getD i T0)) dae5 dce5 sae5 sce5) 35 (0, 0)) :: (g ++ ([]))) at hS
    obtain ⟨M7, hG7, hbb6_5_7, hS⟩ : ∃ Mx, Grow w0.heap.size M3 Mx ∧ Kb Mx b6_5 (.cells (TV ((t.subs.getD i T0)) dae5 dce5 sae5 sce5) 35 (0, 0)) ∧ St w0 w Mx (g ++ ([])) := by
      have hF := hS.freezeG (i := 0) rfl hbb6_5
      exact ⟨_, hF.2, PH.add_self _ _ _, hF.1⟩
    refine WL.nil (Thn_n ?_)
    refine CW.seq ?_
    rcases hcb : tbytes (t.subs.getD i T0) with _ | b
    · refine CW.region ?_
      refine WL.step rfl (Stp.res rfl rfl (Res.loadAll (cs := TV ((t.subs.getD i T0)) dae5 dce5 sae5 sce5) rfl rfl underlying35 rfl sz35 (hS.on _ _ hbb6_5_7)) ?_)
      refine WL.step rfl (Stp.callG (args := [.agg (TV ((t.subs.getD i T0)) dae5 dce5 sae5 sce5)]) rfl rfl rfl cal66 rfl rfl hS ((by have h := ih (t.subs.getD i T0) (by first | exact size_at (by omega) | (apply size_at; omega)) _ _ _ _ _ _ hS.on (hgl.mono ((hG2.trans hG3).trans hG7).1) (hde5.mono ((hG2.trans hG3).trans hG7).1) (hse5.mono ((hG2.trans hG3).trans hG7).1) (hf.at (by omega)); rw [hcb] at h; exact h)) ?_)
      rintro _ w M9 hS hG9 ⟨ey8, ky8, rfl, hy8⟩
      refine WL.step rfl (Stp.res rfl rfl (Res.move rfl rfl) ?_)
      refine WL.step rfl (Stp.res rfl rfl (Res.extract (l := [_, _]) rfl rfl rfl) ?_)
      refine WL.step rfl (Stp.res rfl rfl (Res.extract (l := [_, _]) rfl rfl rfl) ?_)
      refine WL.step rfl (Stp.res rfl rfl (Res.assign rfl rfl) ?_)
      refine WL.step rfl (Stp.res rfl rfl (Res.assign rfl rfl) ?_)
      refine WL.nil (Thn_n ?_)
      refine CW.seq ?_
      refine CW.seq ?_
      refine CW.region ?_
      refine WL.step rfl (Stp.res rfl rfl (Res.move rfl rfl) ?_)
      refine WL.step rfl (Stp.res rfl rfl (Res.neqIN rfl rfl underlying86) ?_)
      refine WL.nil (Thn_n ?_)
      refine CW.condT rfl ?_
      refine CW.seq ?_
      refine CW.region ?_
      refine WL.step rfl (Stp.res rfl rfl (Res.move rfl rfl) ?_)
      refine WL.step rfl (Stp.res rfl rfl (Res.assign rfl rfl) ?_)
      refine WL.step rfl (Stp.res rfl rfl (Res.assign rfl rfl) ?_)
      refine WL.nil (Thn_n ?_)
      refine CW.ret (Thn_r (Blk_r (Thn_r (Thn_r (Blk_r (Thn_r ?_))))))
      rw [tbL_no (by omega) hcb]
      exact fq_tmp2 rfl rfl rfl ⟨_, (hown.dropS hS), (((hG2.trans hG3).trans hG7).trans hG9).1, (((hG2.trans hG3).trans hG7).trans hG9).2, _, _, rfl, hy8⟩
    · refine CW.region ?_
      refine WL.step rfl (Stp.res rfl rfl (Res.loadAll (cs := TV ((t.subs.getD i T0)) dae5 dce5 sae5 sce5) rfl rfl underlying35 rfl sz35 (hS.on _ _ hbb6_5_7)) ?_)
      refine WL.step rfl (Stp.callG (args := [.agg (TV ((t.subs.getD i T0)) dae5 dce5 sae5 sce5)]) rfl rfl rfl cal66 rfl rfl hS ((by have h := ih (t.subs.getD i T0) (by first | exact size_at (by omega) | (apply size_at; omega)) _ _ _ _ _ _ hS.on (hgl.mono ((hG2.trans hG3).trans hG7).1) (hde5.mono ((hG2.trans hG3).trans hG7).1) (hse5.mono ((hG2.trans hG3).trans hG7).1) (hf.at (by omega)); rw [hcb] at h; exact h)) ?_)
      rintro _ w M11 hS hG11 ⟨ay10, cy10, rfl, hy10⟩
      refine WL.step rfl (Stp.res rfl rfl (Res.move rfl rfl) ?_)
      refine WL.step rfl (Stp.res rfl rfl (Res.extract (l := [_, _]) rfl rfl rfl) ?_)
      refine WL.step rfl (Stp.res rfl rfl (Res.extract (l := [_, _]) rfl rfl rfl) ?_)
      refine WL.step rfl (Stp.res rfl rfl (Res.assign rfl rfl) ?_)
      refine WL.step rfl (Stp.res rfl rfl (Res.assign rfl rfl) ?_)
      refine WL.nil (Thn_n ?_)
      refine CW.seq ?_
      refine CW.seq ?_
      refine CW.region ?_
      refine WL.step rfl (Stp.res rfl rfl (Res.move rfl rfl) ?_)
      refine WL.step rfl (Stp.res rfl rfl (Res.neqNN rfl rfl underlying86) ?_)
      refine WL.nil (Thn_n ?_)
      refine CW.condF rfl ?_
      refine CW.skip (Thn_n ?_)
      refine CW.region ?_
      refine WL.step rfl (Stp.res rfl rfl (Res.move rfl rfl) ?_)
      refine WL.step rfl (Stp.res rfl rfl (Res.move rfl rfl) ?_)
      refine WL.step rfl (Stp.lit (vals := [(0, .slice (ay10) ((b).length) (cy10))]) (cs := #[.slice (ay10) ((b).length) (cy10)]) (e := 30) rfl rfl (fun _ => by kernel_rfl) rfl rfl hS ?_)
      intro b26_11 w hbb26_11 hS hkp hnw
      obtain ⟨M13, hG13, hbb26_11_13, hS⟩ : ∃ Mx, Grow w0.heap.size M11 Mx ∧ Kb Mx b26_11 (.cells (#[.slice (ay10) ((b).length) (cy10)]) 30 (0, 0)) ∧ St w0 w Mx (g ++ ([])) := by
        have hF := hS.freezeG (i := 0) rfl hbb26_11
        exact ⟨_, hF.2, PH.add_self _ _ _, hF.1⟩
      refine WL.step rfl (Stp.appendL (r := b) rfl rfl rfl rfl etL rfl underlying94 hbb26_11_13 (hy10.mono hG13.1) hS (hown.mono ((hG7.trans hG11).trans hG13).1) (by have h7 := tbL_len hacc; rw [List.length_take] at h7; omega) (by decide) rfl rfl ?_)
      intro aw14 cw14 w gw14 hS howw14
      refine WL.step rfl (Stp.res rfl rfl (Res.assign rfl rfl) ?_)
      refine WL.nil (Blk_n (Thn_n ?_))
      refine CW.region ?_
      refine WL.step rfl (Stp.res rfl rfl (Res.cast (Res.add rfl rfl rfl (by omega)) (show _ = (.int .i64 ((i + 1 : Nat) : Int) : Value) from congrArg (Value.int .i64) (by omega))) ?_)
      refine WL.step rfl (Stp.res rfl rfl (Res.move rfl rfl) ?_)
      refine WL.nil (Thn_n ?_)
      have hac2 := tbL_next (by omega) hacc hcb
      have htl := tbL_len hac2
      rw [List.length_take] at htl
      have hla : (acc ++ [b]).length = acc.length + 1 := by simp
      exact ⟨(i + 1, acc ++ [b], gw14, aw14, cw14, M13), ⟨(by first | rfl | exact intc (by omega)), (rfl), (rfl), (by first | rfl | exact intc (by omega)), trivial⟩, ⟨by dsimp only; omega, hac2, (((hG3.trans hG7).trans hG11).trans hG13), howw14, hS⟩, by dsimp only; omega⟩
  · refine CW.exit (Thn_x (Thn_x (Blk_x (Thn_n ?_))))
    refine CW.seq ?_
    refine CW.region ?_
    refine WL.step rfl (Stp.res rfl rfl (Res.move rfl rfl) ?_)
    refine WL.step rfl (Stp.res rfl rfl (Res.assign rfl rfl) ?_)
    refine WL.step rfl (Stp.res rfl rfl (Res.assign rfl rfl) ?_)
    refine WL.nil (Thn_n ?_)
    refine CW.ret ?_
    obtain rfl : i = t.subs.length := by omega
    rw [List.take_length] at hacc
    rw [hacc]
    obtain ⟨M15, hS, hG15, hgv16⟩ := hown.give hS
    exact fq_tmp2 rfl rfl rfl ⟨_, hS, ((hG2.trans hG3).trans hG15).1, ((hG2.trans hG3).trans hG15).2, _, _, rfl, hgv16⟩
theorem tbytes_step (t : T) (ihp : PartsC 101 t) : BytesC 66 t := by
  intro da1 dc1 la1 lc1 w0 M hM hgl hd1 hs1 hf
  have hS := hM.st
  have hfi := fine_iff.1 hf
  obtain ⟨hf1, hf2, hf3, hf4⟩ := id hfi
  clear hfi
  have hbl := hs1.len
  refine enterB (l := [.agg (TV (t) da1 dc1 la1 lc1)]) 88 func66 rfl ntmps66 rfl ?_
  refine CW.seq ?_
  refine CW.region ?_
  refine WL.step rfl (Stp.boxA (cs := TV (t) da1 dc1 la1 lc1) rfl rfl rfl rfl hS ?_)
  intro b1_0 w hbb1_0 hS hkp hnw
  obtain ⟨M2, hG2, hbb1_0_2, hS⟩ : ∃ Mx, Grow w0.heap.size M Mx ∧ Kb Mx b1_0 (.cells (TV (t) da1 dc1 la1 lc1) 35 (0, 0)) ∧ St w0 w Mx ([]) := by
    have hF := hS.freezeG (i := 0) rfl hbb1_0
    exact ⟨_, hF.2, PH.add_self _ _ _, hF.1⟩
  refine WL.step rfl (Stp.res rfl rfl (Res.assign rfl rfl) ?_)
  refine WL.step rfl (Stp.res rfl rfl (Res.assign rfl rfl) ?_)
  refine WL.nil (Thn_n ?_)
  refine CW.seq ?_
  refine CW.seq ?_
  refine CW.region ?_
  refine WL.step rfl (Stp.res rfl rfl (Res.loadAll (cs := TV (t) da1 dc1 la1 lc1) rfl rfl underlying35 rfl sz35 (hS.on _ _ hbb1_0_2)) ?_)
  refine WL.step rfl (Stp.callG (args := [.agg (TV (t) da1 dc1 la1 lc1)]) rfl rfl rfl cal100 rfl rfl hS (shaped_ok (t) _ _ _ _ _ _ hS.on (hd1.mono hG2.1) (hs1.mono hG2.1)) ?_)
  rintro _ w _ hS _ ⟨rfl, rfl⟩
  refine WL.step rfl (Stp.res rfl rfl (Res.notP rfl rfl rfl) ?_)
  refine WL.nil (Thn_n ?_)
  refine CW.ite rfl (fun hc3 => ?_) (fun hc3 => ?_)
  · refine CW.seq ?_
    refine CW.region ?_
    refine WL.step rfl (Stp.res rfl rfl (Res.loadAll (cs := TV (t) da1 dc1 la1 lc1) rfl rfl underlying35 rfl sz35 (hS.on _ _ hbb1_0_2)) ?_)
    refine WL.step rfl (Stp.callG (args := [.agg (TV (t) da1 dc1 la1 lc1)]) rfl rfl rfl cal92 rfl rfl hS (wrong_ok (t) _ _ _ _ _ _ hS.on (hd1.mono hG2.1) (hs1.mono hG2.1)) ?_)
    rintro _ w M5 hS hG5 ⟨ewe4, kwe4, rfl, hwe4⟩
    refine WL.step rfl (Stp.res rfl rfl (Res.assign rfl rfl) ?_)
    refine WL.step rfl (Stp.res rfl rfl (Res.assign rfl rfl) ?_)
    refine WL.nil (Thn_n ?_)
    refine CW.ret (Thn_r ?_)
    rw [tb_shape hc3]
    exact fq_tmp2 rfl rfl rfl ⟨_, hS, (hG2.trans hG5).1, (hG2.trans hG5).2, _, _, rfl, hwe4⟩
  · have hshape := Decidable.not_not.1 hc3
    refine CW.skip (Thn_n ?_)
    refine CW.seq ?_
    rcases hpl : tbytesL t.subs with _ | bl
    · refine CW.region ?_
      refine WL.step rfl (Stp.res rfl rfl (Res.loadAll (cs := TV (t) da1 dc1 la1 lc1) rfl rfl underlying35 rfl sz35 (hS.on _ _ hbb1_0_2)) ?_)
      refine WL.step rfl (Stp.callG (args := [.agg (TV (t) da1 dc1 la1 lc1)]) rfl rfl rfl cal101 rfl rfl hS ((by have h := ihp _ _ _ _ _ _ hS.on (hgl.mono hG2.1) (hd1.mono hG2.1) (hs1.mono hG2.1) hf; rw [hpl] at h; exact h)) ?_)
      rintro _ w M7 hS hG7 ⟨ey6, ky6, rfl, hy6⟩
      refine WL.step rfl (Stp.res rfl rfl (Res.move rfl rfl) ?_)
      refine WL.step rfl (Stp.res rfl rfl (Res.extract (l := [_, _]) rfl rfl rfl) ?_)
      refine WL.step rfl (Stp.res rfl rfl (Res.extract (l := [_, _]) rfl rfl rfl) ?_)
      refine WL.step rfl (Stp.res rfl rfl (Res.assign rfl rfl) ?_)
      refine WL.step rfl (Stp.res rfl rfl (Res.assign rfl rfl) ?_)
      refine WL.nil (Thn_n ?_)
      refine CW.seq ?_
      refine CW.seq ?_
      refine CW.region ?_
      refine WL.step rfl (Stp.res rfl rfl (Res.move rfl rfl) ?_)
      refine WL.step rfl (Stp.res rfl rfl (Res.neqIN rfl rfl underlying86) ?_)
      refine WL.nil (Thn_n ?_)
      refine CW.condT rfl ?_
      refine CW.seq ?_
      refine CW.region ?_
      refine WL.step rfl (Stp.res rfl rfl (Res.move rfl rfl) ?_)
      refine WL.step rfl (Stp.res rfl rfl (Res.assign rfl rfl) ?_)
      refine WL.step rfl (Stp.res rfl rfl (Res.assign rfl rfl) ?_)
      refine WL.nil (Thn_n ?_)
      refine CW.ret (Thn_r ?_)
      rw [tb_parts hpl]
      exact fq_tmp2 rfl rfl rfl ⟨_, hS, (hG2.trans hG7).1, (hG2.trans hG7).2, _, _, rfl, hy6⟩
    · refine CW.region ?_
      refine WL.step rfl (Stp.res rfl rfl (Res.loadAll (cs := TV (t) da1 dc1 la1 lc1) rfl rfl underlying35 rfl sz35 (hS.on _ _ hbb1_0_2)) ?_)
      refine WL.step rfl (Stp.callG (args := [.agg (TV (t) da1 dc1 la1 lc1)]) rfl rfl rfl cal101 rfl rfl hS ((by have h := ihp _ _ _ _ _ _ hS.on (hgl.mono hG2.1) (hd1.mono hG2.1) (hs1.mono hG2.1) hf; rw [hpl] at h; exact h)) ?_)
      rintro _ w M9 hS hG9 ⟨ay8, cy8, rfl, hy8⟩
      have hll := tbL_len hpl
      refine WL.step rfl (Stp.res rfl rfl (Res.move rfl rfl) ?_)
      refine WL.step rfl (Stp.res rfl rfl (Res.extract (l := [_, _]) rfl rfl rfl) ?_)
      refine WL.step rfl (Stp.res rfl rfl (Res.extract (l := [_, _]) rfl rfl rfl) ?_)
      refine WL.step rfl (Stp.res rfl rfl (Res.assign rfl rfl) ?_)
      refine WL.step rfl (Stp.res rfl rfl (Res.assign rfl rfl) ?_)
      refine WL.nil (Thn_n ?_)
      refine CW.seq ?_
      refine CW.seq ?_
      refine CW.region ?_
      refine WL.step rfl (Stp.res rfl rfl (Res.move rfl rfl) ?_)
      refine WL.step rfl (Stp.res rfl rfl (Res.neqNN rfl rfl underlying86) ?_)
      refine WL.nil (Thn_n ?_)
      refine CW.condF rfl ?_
      refine CW.skip (Thn_n ?_)
      refine CW.seq ?_
      refine CW.region ?_
      refine WL.step rfl (Stp.res rfl rfl (Res.assign rfl rfl) ?_)
      refine WL.nil (Thn_n ?_)
      refine CW.seq ?_
      refine CW.region ?_
      refine WL.step rfl (Stp.res rfl rfl (Res.assign rfl rfl) ?_)
      refine WL.nil (Thn_n ?_)
      refine CW.seq ?_
      refine CW.seq ?_
      refine CW.region ?_
      refine WL.step rfl (Stp.res rfl rfl (Res.fieldA rfl rfl underlying35 rfl (show SZ Tryz.prog _ 1 from sz3) (by decide)) ?_)
      refine WL.step rfl (Stp.res rfl rfl (Res.load1 (v := .int .i64 (t.kind)) rfl rfl underlying3 rfl (hS.cell (PH.cell_of (hbb1_0_2.mono hG9.1) rfl))) ?_)
      refine WL.nil (Thn_n ?_)
      refine CW.block ?_
      refine CW.seq ?_
      refine CW.region ?_
      refine WL.step rfl (Stp.res rfl rfl (Res.eql rfl rfl rfl) ?_)
      refine WL.step rfl (Stp.res rfl rfl (Res.assign rfl rfl) ?_)
      refine WL.nil (Thn_n ?_)
      refine CW.ite rfl (fun hc10 => ?_) (fun hc10 => ?_)
      · refine CW.region ?_
        refine WL.step rfl (Stp.res rfl rfl (Res.move rfl rfl) ?_)
        refine WL.step rfl (Stp.res rfl rfl (Res.fieldA rfl rfl underlying35 rfl (show SZ Tryz.prog _ 1 from sz30) (by decide)) ?_)
        refine WL.step rfl (Stp.res rfl rfl (Res.load1 (v := .slice (da1) (t.data.length) (dc1)) rfl rfl underlying30 rfl (hS.cell (PH.cell_of (hbb1_0_2.mono hG9.1) rfl))) ?_)
        have howw11 : OwnB w0.heap.size [] (.slice none 0 0) [] 5 := OwnB.nil _ _
        refine WL.step rfl (Stp.appendB (l := []) (r := t.data) rfl rfl rfl rfl etB (Src.ofBs underlying30 hS (hd1.mono (hG2.trans hG9).1)) hS howw11 (by first | omega | (simp only [List.length_nil]; omega)) rfl rfl ?_)
        intro vw12 w gw12 hS howw12
        obtain ⟨aw12, cw12, rfl, l1w12, l2w12⟩ := howw12.slice
        have hlw12 : ([] ++ t.data).length = ([]).length + (t.data).length := List.length_append
        refine WL.step rfl (Stp.res rfl rfl (Res.assign rfl rfl) ?_)
        refine WL.nil (Blk_n (Thn_n ?_))
        refine CW.seq ?_
        refine CW.seq ?_
        refine CW.region ?_
        refine WL.step rfl (Stp.res rfl rfl (Res.move rfl rfl) ?_)
        refine WL.step rfl (Stp.res rfl rfl (Res.neq rfl rfl rfl) ?_)
        refine WL.nil (Thn_n ?_)
        refine CW.condF (bF (by omega)) ?_
        refine CW.skip (Thn_n ?_)
        refine CW.seq ?_
        refine CW.region ?_
        refine WL.step rfl (Stp.res rfl rfl (Res.move rfl rfl) ?_)
        refine WL.step rfl (Stp.res rfl rfl (Res.assign rfl rfl) ?_)
        refine WL.step rfl (Stp.res rfl rfl (Res.assign rfl rfl) ?_)
        refine WL.nil (Thn_n ?_)
        refine CW.ret ?_
        obtain ⟨M13, hS, hlegv14, hfrgv14, hgv14⟩ := howw12.give hS
        have hG13 : Grow w0.heap.size M9 M13 := ⟨hlegv14, hfrgv14⟩
        rw [tb_of hshape hpl, bytes1_1 (by omega), ← List.nil_append t.data]
        exact fq_tmp2 rfl rfl rfl ⟨_, hS, ((hG2.trans hG9).trans hG13).1, ((hG2.trans hG9).trans hG13).2, _, _, rfl, hgv14⟩
      · refine CW.seq ?_
        refine CW.region ?_
        refine WL.step rfl (Stp.res rfl rfl (Res.eql rfl rfl rfl) ?_)
        refine WL.step rfl (Stp.res rfl rfl (Res.assign rfl rfl) ?_)
        refine WL.nil (Thn_n ?_)
        refine CW.ite rfl (fun hc15 => ?_) (fun hc15 => ?_)
        · refine CW.region ?_
          refine WL.step rfl (Stp.res rfl rfl (Res.fieldA rfl rfl underlying35 rfl (show SZ Tryz.prog _ 1 from sz9) (by decide)) ?_)
          refine WL.step rfl (Stp.res rfl rfl (Res.load1 (v := Go.E.str (t.name)) rfl rfl underlying9 rfl (hS.cell (PH.cell_of (hbb1_0_2.mono hG9.1) rfl))) ?_)
          refine WL.step rfl (Stp.s2b (l := t.name) rfl rfl underlying9 underlying30 underlying5 (by omega) hS rfl rfl ?_)
          intro w v M16 hS hG16 hsb17
          obtain ⟨asb17, csb17, rfl, -, -, -, -⟩ := id hsb17
          refine WL.step rfl (Stp.callG (args := [.slice (asb17) ((t.name).length) (csb17), .slice (none) (0) (0), Go.E.str ([115, 101, 99, 114, 101, 116]), .int .i64 ((16 : Nat) : Int)]) rfl rfl rfl cal102 rfl rfl hS (derive_ok (t.name) ([115, 101, 99, 114, 101, 116]) _ _ _ _ hS.on (hgl.mono ((hG2.trans hG9).trans hG16).1) hsb17 (by first | omega | (simp; done) | (simp; omega)) (by decide)) ?_)
          rintro _ w M19 hS hG19 ⟨sx18, rfl, hx18⟩
          obtain ⟨ax18, cx18, rfl, -, -, -, -⟩ := id hx18
          refine WL.step rfl (Stp.res rfl rfl (Res.move rfl rfl) ?_)
          refine WL.step rfl (Stp.res rfl rfl (Res.extract (l := [_, _]) rfl rfl rfl) ?_)
          refine WL.step rfl (Stp.res rfl rfl (Res.extract (l := [_, _]) rfl rfl rfl) ?_)
          refine WL.step rfl (Stp.res rfl rfl (Res.assign rfl rfl) ?_)
          refine WL.step rfl (Stp.res rfl rfl (Res.assign rfl rfl) ?_)
          refine WL.nil (Blk_n (Thn_n ?_))
          refine CW.seq ?_
          refine CW.seq ?_
          refine CW.region ?_
          refine WL.step rfl (Stp.res rfl rfl (Res.move rfl rfl) ?_)
          refine WL.step rfl (Stp.res rfl rfl (Res.neq rfl rfl rfl) ?_)
          refine WL.nil (Thn_n ?_)
          refine CW.condF (bF (by omega)) ?_
          refine CW.skip (Thn_n ?_)
          refine CW.seq ?_
          refine CW.region ?_
          refine WL.step rfl (Stp.res rfl rfl (Res.move rfl rfl) ?_)
          refine WL.step rfl (Stp.res rfl rfl (Res.assign rfl rfl) ?_)
          refine WL.step rfl (Stp.res rfl rfl (Res.assign rfl rfl) ?_)
          refine WL.nil (Thn_n ?_)
          refine CW.ret ?_
          rw [tb_of hshape hpl, bytes1_2 (by omega)]
          exact fq_tmp2 rfl rfl rfl ⟨_, hS, (((hG2.trans hG9).trans hG16).trans hG19).1, (((hG2.trans hG9).trans hG16).trans hG19).2, _, _, rfl, hx18⟩
        · refine CW.seq ?_
          refine CW.region ?_
          refine WL.step rfl (Stp.res rfl rfl (Res.eql rfl rfl rfl) ?_)
          refine WL.step rfl (Stp.res rfl rfl (Res.assign rfl rfl) ?_)
          refine WL.nil (Thn_n ?_)
          refine CW.ite rfl (fun hc20 => ?_) (fun hc20 => ?_)
          · refine CW.region ?_
            refine WL.step rfl (Stp.res rfl rfl (Res.move rfl rfl) ?_)
            refine WL.step rfl (Stp.callG (args := [.slice (ay8) (bl.length) (cy8)]) rfl rfl rfl cal103 rfl rfl hS (list_ok bl _ _ _ _ hS.on hy8) ?_)
            rintro _ w M22 hS hG22 ⟨sx21, rfl, hx21⟩
            obtain ⟨ax21, cx21, rfl, -, -, -, -⟩ := id hx21
            refine WL.step rfl (Stp.res rfl rfl (Res.move rfl rfl) ?_)
            refine WL.step rfl (Stp.res rfl rfl (Res.extract (l := [_, _]) rfl rfl rfl) ?_)
            refine WL.step rfl (Stp.res rfl rfl (Res.extract (l := [_, _]) rfl rfl rfl) ?_)
            refine WL.step rfl (Stp.res rfl rfl (Res.assign rfl rfl) ?_)
            refine WL.step rfl (Stp.res rfl rfl (Res.assign rfl rfl) ?_)
            refine WL.nil (Blk_n (Thn_n ?_))
            refine CW.seq ?_
            refine CW.seq ?_
            refine CW.region ?_
            refine WL.step rfl (Stp.res rfl rfl (Res.move rfl rfl) ?_)
            refine WL.step rfl (Stp.res rfl rfl (Res.neq rfl rfl rfl) ?_)
            refine WL.nil (Thn_n ?_)
            refine CW.ite rfl (fun hc23 => ?_) (fun hc23 => ?_)
            · refine CW.seq ?_
              refine CW.region ?_
              refine WL.step rfl (Stp.res rfl rfl (Res.loadAll (cs := TV (t) da1 dc1 la1 lc1) rfl rfl underlying35 rfl sz35 (hS.on _ _ (hbb1_0_2.mono (hG9.trans hG22).1))) ?_)
              refine WL.step rfl (Stp.callG (args := [.agg (TV (t) da1 dc1 la1 lc1)]) rfl rfl rfl cal92 rfl rfl hS (wrong_ok (t) _ _ _ _ _ _ hS.on (hd1.mono ((hG2.trans hG9).trans hG22).1) (hs1.mono ((hG2.trans hG9).trans hG22).1)) ?_)
              rintro _ w M25 hS hG25 ⟨ewe24, kwe24, rfl, hwe24⟩
              refine WL.step rfl (Stp.res rfl rfl (Res.assign rfl rfl) ?_)
              refine WL.step rfl (Stp.res rfl rfl (Res.assign rfl rfl) ?_)
              refine WL.nil (Thn_n ?_)
              refine CW.ret (Thn_r ?_)
              rw [tb_of hshape hpl, bytes1_3 (by omega), ofE_no hc23]
              exact fq_tmp2 rfl rfl rfl ⟨_, hS, (((hG2.trans hG9).trans hG22).trans hG25).1, (((hG2.trans hG9).trans hG22).trans hG25).2, _, _, rfl, hwe24⟩
            · refine CW.skip (Thn_n ?_)
              refine CW.seq ?_
              refine CW.region ?_
              refine WL.step rfl (Stp.res rfl rfl (Res.move rfl rfl) ?_)
              refine WL.step rfl (Stp.res rfl rfl (Res.assign rfl rfl) ?_)
              refine WL.step rfl (Stp.res rfl rfl (Res.assign rfl rfl) ?_)
              refine WL.nil (Thn_n ?_)
              refine CW.ret ?_
              rw [tb_of hshape hpl, bytes1_3 (by omega), ofE_yes hc23]
              exact fq_tmp2 rfl rfl rfl ⟨_, hS, ((hG2.trans hG9).trans hG22).1, ((hG2.trans hG9).trans hG22).2, _, _, rfl, hx21⟩
          · refine CW.seq ?_
            refine CW.region ?_
            refine WL.step rfl (Stp.res rfl rfl (Res.eql rfl rfl rfl) ?_)
            refine WL.step rfl (Stp.res rfl rfl (Res.assign rfl rfl) ?_)
            refine WL.nil (Thn_n ?_)
            refine CW.ite rfl (fun hc26 => ?_) (fun hc26 => ?_)
            · have hsh := (shape4 (by omega)).1 hshape
              have hb0 := bytes_at hf hpl (j := 0) (by omega)
              have hb1 := bytes_at hf hpl (j := 1) (by omega)
              have hS := hS.drew
              have hK0 : On M9 w := hS.on
              refine CW.held (fun w => On M9 w) mixed ?_
              refine AL.take 0 rfl (by kernel_rfl) (by kernel_rfl) (by kernel_rfl) rfl rfl rfl hK0 (fun w hK => Res.move rfl rfl) ?_
              obtain ⟨be28, oe28, dae28, dce28, eae28, hce28, hde28⟩ := Ls.get (j := 0) hy8 (by omega)
              have hne28 := hde28.len
              refine AL.take 1 rfl (by kernel_rfl) (by kernel_rfl) (by kernel_rfl) rfl rfl rfl hK0 (fun w hK => Res.idxT1 (k := 0) rfl rfl eae28 rfl underlying94 sz30 (show (0 : Int).toNat = 0 from rfl) (by omega)) ?_
              refine AL.take 2 rfl (by kernel_rfl) (by kernel_rfl) (by kernel_rfl) rfl rfl rfl hK0 (fun w hK => Res.load1 (v := .slice (dae28) ((bl.getD 0 []).length) (dce28)) rfl rfl underlying30 rfl (hK.st.cell hce28)) ?_
              refine AL.take 3 rfl (by kernel_rfl) (by kernel_rfl) (by kernel_rfl) rfl rfl rfl hK0 (fun w hK => Res.fieldA rfl rfl underlying35 rfl (show SZ Tryz.prog _ 1 from sz3) (by decide)) ?_
              refine AL.take 4 rfl (by kernel_rfl) (by kernel_rfl) (by kernel_rfl) rfl rfl rfl hK0 (fun w hK => Res.load1 (v := .int .i64 (t.num)) rfl rfl underlying3 rfl (hK.st.cell (PH.cell_of (hbb1_0_2.mono hG9.1) rfl))) ?_
              refine AL.take 5 rfl (by kernel_rfl) (by kernel_rfl) (by kernel_rfl) rfl rfl rfl hK0 (fun w hK => Res.fieldA rfl rfl underlying35 rfl (show SZ Tryz.prog _ 1 from sz30) (by decide)) ?_
              refine AL.take 6 rfl (by kernel_rfl) (by kernel_rfl) (by kernel_rfl) rfl rfl rfl hK0 (fun w hK => Res.load1 (v := .slice (da1) (t.data.length) (dc1)) rfl rfl underlying30 rfl (hK.st.cell (PH.cell_of (hbb1_0_2.mono hG9.1) rfl))) ?_
              refine AL.take 7 rfl (by kernel_rfl) (by kernel_rfl) (by kernel_rfl) rfl rfl rfl hK0 (fun w hK => Res.move rfl rfl) ?_
              obtain ⟨be29, oe29, dae29, dce29, eae29, hce29, hde29⟩ := Ls.get (j := 1) hy8 (by omega)
              have hne29 := hde29.len
              refine AL.take 8 rfl (by kernel_rfl) (by kernel_rfl) (by kernel_rfl) rfl rfl rfl hK0 (fun w hK => Res.idxT1 (k := 1) rfl rfl eae29 rfl underlying94 sz30 (show (1 : Int).toNat = 1 from rfl) (by omega)) ?_
              refine AL.take 9 rfl (by kernel_rfl) (by kernel_rfl) (by kernel_rfl) rfl rfl rfl hK0 (fun w hK => Res.load1 (v := .slice (dae29) ((bl.getD 1 []).length) (dce29)) rfl rfl underlying30 rfl (hK.st.cell hce29)) ?_
              refine AL.one 10 rfl (by kernel_rfl) rfl (Stp.callG (args := [.slice (dae28) ((bl.getD 0 []).length) (dce28), .int .i64 (t.num), .slice (da1) (t.data.length) (dc1), .slice (dae29) ((bl.getD 1 []).length) (dce29)]) rfl rfl rfl cal88 rfl rfl hS (seal_all _ _ _ ((bl.getD 0 [])) (t.data) ((bl.getD 1 [])) t.num _ _ hS.on (hgl.mono (hG2.trans hG9).1) hde28 (hd1.mono (hG2.trans hG9).1) hde29) ?_)
              rintro _ w M31 hS hG31 ⟨sx30, rfl, hx30⟩
              obtain ⟨ax30, cx30, rfl, -, -, -, -⟩ := id hx30
              have hK0 : On M9 w := (hS.known hG31.1).on
              refine ⟨hK0, ?_⟩
              refine AL.take 11 rfl (by kernel_rfl) (by kernel_rfl) (by kernel_rfl) rfl rfl rfl hK0 (fun w hK => Res.move rfl rfl) ?_
              refine AL.take 12 rfl (by kernel_rfl) (by kernel_rfl) (by kernel_rfl) rfl rfl rfl hK0 (fun w hK => Res.extract (l := [_, _]) rfl rfl rfl) ?_
              refine AL.take 13 rfl (by kernel_rfl) (by kernel_rfl) (by kernel_rfl) rfl rfl rfl hK0 (fun w hK => Res.extract (l := [_, _]) rfl rfl rfl) ?_
              refine AL.take 14 rfl (by kernel_rfl) (by kernel_rfl) (by kernel_rfl) rfl rfl rfl hK0 (fun w hK => Res.assign rfl rfl) ?_
              refine AL.take 15 rfl (by kernel_rfl) (by kernel_rfl) (by kernel_rfl) rfl rfl rfl hK0 (fun w hK => Res.assign rfl rfl) ?_
              refine AL.done (by kernel_rfl) (Blk_n (Thn_n ?_))
              refine CW.seq ?_
              refine CW.seq ?_
              refine CW.region ?_
              refine WL.step rfl (Stp.res rfl rfl (Res.move rfl rfl) ?_)
              refine WL.step rfl (Stp.res rfl rfl (Res.neq rfl rfl rfl) ?_)
              refine WL.nil (Thn_n ?_)
              refine CW.ite rfl (fun hc32 => ?_) (fun hc32 => ?_)
              · refine CW.seq ?_
                refine CW.region ?_
                refine WL.step rfl (Stp.res rfl rfl (Res.loadAll (cs := TV (t) da1 dc1 la1 lc1) rfl rfl underlying35 rfl sz35 (hS.on _ _ (hbb1_0_2.mono (hG9.trans hG31).1))) ?_)
                refine WL.step rfl (Stp.callG (args := [.agg (TV (t) da1 dc1 la1 lc1)]) rfl rfl rfl cal92 rfl rfl hS (wrong_ok (t) _ _ _ _ _ _ hS.on (hd1.mono ((hG2.trans hG9).trans hG31).1) (hs1.mono ((hG2.trans hG9).trans hG31).1)) ?_)
                rintro _ w M34 hS hG34 ⟨ewe33, kwe33, rfl, hwe33⟩
                refine WL.step rfl (Stp.res rfl rfl (Res.assign rfl rfl) ?_)
                refine WL.step rfl (Stp.res rfl rfl (Res.assign rfl rfl) ?_)
                refine WL.nil (Thn_n ?_)
                refine CW.ret (Thn_r ?_)
                rw [tb_of hshape hpl, bytes1_4 (by omega), ofE_no hc32]
                exact fq_tmp2 rfl rfl rfl ⟨_, hS, (((hG2.trans hG9).trans hG31).trans hG34).1, (((hG2.trans hG9).trans hG31).trans hG34).2, _, _, rfl, hwe33⟩
              · refine CW.skip (Thn_n ?_)
                refine CW.seq ?_
                refine CW.region ?_
                refine WL.step rfl (Stp.res rfl rfl (Res.move rfl rfl) ?_)
                refine WL.step rfl (Stp.res rfl rfl (Res.assign rfl rfl) ?_)
                refine WL.step rfl (Stp.res rfl rfl (Res.assign rfl rfl) ?_)
                refine WL.nil (Thn_n ?_)
                refine CW.ret ?_
                rw [tb_of hshape hpl, bytes1_4 (by omega), ofE_yes hc32]
                exact fq_tmp2 rfl rfl rfl ⟨_, hS, ((hG2.trans hG9).trans hG31).1, ((hG2.trans hG9).trans hG31).2, _, _, rfl, hx30⟩
            · refine CW.seq ?_
              refine CW.region ?_
              refine WL.step rfl (Stp.res rfl rfl (Res.eql rfl rfl rfl) ?_)
              refine WL.step rfl (Stp.res rfl rfl (Res.assign rfl rfl) ?_)
              refine WL.nil (Thn_n ?_)
              refine CW.ite rfl (fun hc35 => ?_) (fun hc35 => ?_)
              · have hsh := (shape5 (by omega)).1 hshape
                have hb0 := bytes_at hf hpl (j := 0) (by omega)
                have hb1 := bytes_at hf hpl (j := 1) (by omega)
                refine CW.seq ?_
                have hS := hS.drew
                have hK0 : On M9 w := hS.on
                refine CW.held (fun w => On M9 w) mixed ?_
                refine AL.take 0 rfl (by kernel_rfl) (by kernel_rfl) (by kernel_rfl) rfl rfl rfl hK0 (fun w hK => Res.move rfl rfl) ?_
                obtain ⟨be37, oe37, dae37, dce37, eae37, hce37, hde37⟩ := Ls.get (j := 0) hy8 (by omega)
                have hne37 := hde37.len
                refine AL.take 1 rfl (by kernel_rfl) (by kernel_rfl) (by kernel_rfl) rfl rfl rfl hK0 (fun w hK => Res.idxT1 (k := 0) rfl rfl eae37 rfl underlying94 sz30 (show (0 : Int).toNat = 0 from rfl) (by omega)) ?_
                refine AL.take 2 rfl (by kernel_rfl) (by kernel_rfl) (by kernel_rfl) rfl rfl rfl hK0 (fun w hK => Res.load1 (v := .slice (dae37) ((bl.getD 0 []).length) (dce37)) rfl rfl underlying30 rfl (hK.st.cell hce37)) ?_
                refine AL.take 3 rfl (by kernel_rfl) (by kernel_rfl) (by kernel_rfl) rfl rfl rfl hK0 (fun w hK => Res.move rfl rfl) ?_
                obtain ⟨be38, oe38, dae38, dce38, eae38, hce38, hde38⟩ := Ls.get (j := 1) hy8 (by omega)
                have hne38 := hde38.len
                refine AL.take 4 rfl (by kernel_rfl) (by kernel_rfl) (by kernel_rfl) rfl rfl rfl hK0 (fun w hK => Res.idxT1 (k := 1) rfl rfl eae38 rfl underlying94 sz30 (show (1 : Int).toNat = 1 from rfl) (by omega)) ?_
                refine AL.take 5 rfl (by kernel_rfl) (by kernel_rfl) (by kernel_rfl) rfl rfl rfl hK0 (fun w hK => Res.load1 (v := .slice (dae38) ((bl.getD 1 []).length) (dce38)) rfl rfl underlying30 rfl (hK.st.cell hce38)) ?_
                refine AL.twoG 6 7 rfl rfl (by kernel_rfl) (Wan.none rfl) (Wan.none rfl) ?_ ?_
                · refine Stp.callG (args := [.slice (dae37) ((bl.getD 0 []).length) (dce37), .slice (dae38) ((bl.getD 1 []).length) (dce38)]) rfl rfl rfl cal104 rfl rfl hS (mac_ok _ _ ((bl.getD 0 [])) ((bl.getD 1 [])) _ _ hS.on (hgl.mono (hG2.trans hG9).1) hde37 hde38 (by first | omega | (simp; done) | (simp; omega)) (by first | omega | (simp; done) | (simp; omega))) ?_
                  rintro _ w _ hS _ ⟨rfl, rfl⟩
                  have hK0 : On M9 w := hS.on
                  refine ⟨hK0, ?_⟩
                  refine AL.one 7 rfl (by kernel_rfl) rfl (Stp.alloc (cs := bs (List.replicate 32 0)) rfl zt143 rfl rfl rfl hS ?_)
                  intro b8_38 w hbb8_38 hS hkp hnw
                  have hK0 : On M9 w := hS.on
                  refine ⟨hK0, ?_⟩
                  refine AL.one 8 rfl (by kernel_rfl) rfl (Stp.storeAllB 0 rfl rfl rfl sz143 rfl hS rfl (by simp) ?_)
                  intro w hS hpt
                  change St w0 _ M9 ([(b8_38, .cells (bs (Mac.sum ((bl.getD 0 [])) ((bl.getD 1 [])))) 143 (0, 0))]) at hS
                  obtain ⟨M40, hG40, hbb8_38_40, hS⟩ : ∃ Mx, Grow w0.heap.size M9 Mx ∧ Kb Mx b8_38 (.cells (bs (Mac.sum ((bl.getD 0 [])) ((bl.getD 1 [])))) 143 (0, 0)) ∧ St w0 w Mx ([]) := by
                    have hF := hS.freezeG (i := 0) rfl hbb8_38
                    exact ⟨_, hF.2, PH.add_self _ _ _, hF.1⟩
                  have hK0 : On M9 w := (hS.known hG40.1).on
                  refine ⟨hK0, ?_⟩
                  refine AL.done (by kernel_rfl) (Thn_n ?_)
                  refine CW.region ?_
                  refine WL.step rfl (Stp.res rfl rfl (Res.sliceA rfl rfl underlying143 (by decide) sz5) ?_)
                  refine WL.step rfl (Stp.res rfl rfl (Res.assign rfl rfl) ?_)
                  refine WL.nil (Blk_n (Thn_n ?_))
                  refine CW.seq ?_
                  refine CW.seq ?_
                  refine CW.region ?_
                  refine WL.step rfl (Stp.res rfl rfl (Res.move rfl rfl) ?_)
                  refine WL.step rfl (Stp.res rfl rfl (Res.neq rfl rfl rfl) ?_)
                  refine WL.nil (Thn_n ?_)
                  refine CW.condF (bF (by omega)) ?_
                  refine CW.skip (Thn_n ?_)
                  refine CW.seq ?_
                  refine CW.region ?_
                  refine WL.step rfl (Stp.res rfl rfl (Res.move rfl rfl) ?_)
                  refine WL.step rfl (Stp.res rfl rfl (Res.assign rfl rfl) ?_)
                  refine WL.step rfl (Stp.res rfl rfl (Res.assign rfl rfl) ?_)
                  refine WL.nil (Thn_n ?_)
                  refine CW.ret ?_
                  rw [tb_of hshape hpl, bytes1_5 (by omega)]
                  exact fq_tmp2 rfl rfl rfl ⟨_, hS, ((hG2.trans hG9).trans hG40).1, ((hG2.trans hG9).trans hG40).2, _, _, rfl, (Bs.of' (k := 32) hbb8_38_40 (by simp) (by omega))⟩
                · refine Stp.alloc (cs := bs (List.replicate 32 0)) rfl zt143 rfl rfl rfl hS ?_
                  intro b8_40 w hbb8_40 hS hkp hnw
                  have hK0 : On M9 w := hS.on
                  refine ⟨hK0, ?_⟩
                  refine AL.one 6 rfl (by kernel_rfl) rfl (Stp.callG (args := [.slice (dae37) ((bl.getD 0 []).length) (dce37), .slice (dae38) ((bl.getD 1 []).length) (dce38)]) rfl rfl rfl cal104 rfl rfl hS (mac_ok _ _ ((bl.getD 0 [])) ((bl.getD 1 [])) _ _ hS.on (hgl.mono (hG2.trans hG9).1) hde37 hde38 (by first | omega | (simp; done) | (simp; omega)) (by first | omega | (simp; done) | (simp; omega))) ?_)
                  rintro _ w _ hS _ ⟨rfl, rfl⟩
                  have hK0 : On M9 w := hS.on
                  refine ⟨hK0, ?_⟩
                  refine AL.one 8 rfl (by kernel_rfl) rfl (Stp.storeAllB 0 rfl rfl rfl sz143 rfl hS rfl (by simp) ?_)
                  intro w hS hpt
                  change St w0 _ M9 ([(b8_40, .cells (bs (Mac.sum ((bl.getD 0 [])) ((bl.getD 1 [])))) 143 (0, 0))]) at hS
                  obtain ⟨M42, hG42, hbb8_40_42, hS⟩ : ∃ Mx, Grow w0.heap.size M9 Mx ∧ Kb Mx b8_40 (.cells (bs (Mac.sum ((bl.getD 0 [])) ((bl.getD 1 [])))) 143 (0, 0)) ∧ St w0 w Mx ([]) := by
                    have hF := hS.freezeG (i := 0) rfl hbb8_40
                    exact ⟨_, hF.2, PH.add_self _ _ _, hF.1⟩
                  have hK0 : On M9 w := (hS.known hG42.1).on
                  refine ⟨hK0, ?_⟩
                  refine AL.done (by kernel_rfl) (Thn_n ?_)
                  refine CW.region ?_
                  refine WL.step rfl (Stp.res rfl rfl (Res.sliceA rfl rfl underlying143 (by decide) sz5) ?_)
                  refine WL.step rfl (Stp.res rfl rfl (Res.assign rfl rfl) ?_)
                  refine WL.nil (Blk_n (Thn_n ?_))
                  refine CW.seq ?_
                  refine CW.seq ?_
                  refine CW.region ?_
                  refine WL.step rfl (Stp.res rfl rfl (Res.move rfl rfl) ?_)
                  refine WL.step rfl (Stp.res rfl rfl (Res.neq rfl rfl rfl) ?_)
                  refine WL.nil (Thn_n ?_)
                  refine CW.condF (bF (by omega)) ?_
                  refine CW.skip (Thn_n ?_)
                  refine CW.seq ?_
                  refine CW.region ?_
                  refine WL.step rfl (Stp.res rfl rfl (Res.move rfl rfl) ?_)
                  refine WL.step rfl (Stp.res rfl rfl (Res.assign rfl rfl) ?_)
                  refine WL.step rfl (Stp.res rfl rfl (Res.assign rfl rfl) ?_)
                  refine WL.nil (Thn_n ?_)
                  refine CW.ret ?_
                  rw [tb_of hshape hpl, bytes1_5 (by omega)]
                  exact fq_tmp2 rfl rfl rfl ⟨_, hS, ((hG2.trans hG9).trans hG42).1, ((hG2.trans hG9).trans hG42).2, _, _, rfl, (Bs.of' (k := 32) hbb8_40_42 (by simp) (by omega))⟩
              · refine CW.seq ?_
                refine CW.region ?_
                refine WL.step rfl (Stp.res rfl rfl (Res.eql rfl rfl rfl) ?_)
                refine WL.step rfl (Stp.res rfl rfl (Res.assign rfl rfl) ?_)
                refine WL.nil (Thn_n ?_)
                refine CW.ite rfl (fun hc43 => ?_) (fun hc43 => ?_)
                · have hsh := (shape6 (by omega)).1 hshape
                  have hb0 := bytes_at hf hpl (j := 0) (by omega)
                  have hS := hS.drew
                  have hK0 : On M9 w := hS.on
                  refine CW.held (fun w => On M9 w) mixed ?_
                  refine AL.take 0 rfl (by kernel_rfl) (by kernel_rfl) (by kernel_rfl) rfl rfl rfl hK0 (fun w hK => Res.move rfl rfl) ?_
                  obtain ⟨be45, oe45, dae45, dce45, eae45, hce45, hde45⟩ := Ls.get (j := 0) hy8 (by omega)
                  have hne45 := hde45.len
                  refine AL.take 1 rfl (by kernel_rfl) (by kernel_rfl) (by kernel_rfl) rfl rfl rfl hK0 (fun w hK => Res.idxT1 (k := 0) rfl rfl eae45 rfl underlying94 sz30 (show (0 : Int).toNat = 0 from rfl) (by omega)) ?_
                  refine AL.take 2 rfl (by kernel_rfl) (by kernel_rfl) (by kernel_rfl) rfl rfl rfl hK0 (fun w hK => Res.load1 (v := .slice (dae45) ((bl.getD 0 []).length) (dce45)) rfl rfl underlying30 rfl (hK.st.cell hce45)) ?_
                  refine AL.take 3 rfl (by kernel_rfl) (by kernel_rfl) (by kernel_rfl) rfl rfl rfl hK0 (fun w hK => Res.fieldA rfl rfl underlying35 rfl (show SZ Tryz.prog _ 1 from sz9) (by decide)) ?_
                  refine AL.take 4 rfl (by kernel_rfl) (by kernel_rfl) (by kernel_rfl) rfl rfl rfl hK0 (fun w hK => Res.load1 (v := Go.E.str (t.name)) rfl rfl underlying9 rfl (hK.st.cell (PH.cell_of (hbb1_0_2.mono hG9.1) rfl))) ?_
                  refine AL.one 5 rfl (by kernel_rfl) rfl (Stp.callG (args := [.slice (dae45) ((bl.getD 0 []).length) (dce45), Go.E.str (t.name), .int .i64 ((16 : Nat) : Int)]) rfl rfl rfl cal105 rfl rfl hS (expand_ok _ ((bl.getD 0 [])) (t.name) 16 _ _ hS.on (hgl.mono (hG2.trans hG9).1) hde45 (by first | omega | (simp; done) | (simp; omega)) (by first | omega | (simp; done) | (simp; omega)) (by decide)) ?_)
                  rintro _ w M47 hS hG47 ⟨sx46, rfl, hx46⟩
                  obtain ⟨ax46, cx46, rfl, -, -, -, -⟩ := id hx46
                  have hK0 : On M9 w := (hS.known hG47.1).on
                  refine ⟨hK0, ?_⟩
                  refine AL.take 6 rfl (by kernel_rfl) (by kernel_rfl) (by kernel_rfl) rfl rfl rfl hK0 (fun w hK => Res.move rfl rfl) ?_
                  refine AL.take 7 rfl (by kernel_rfl) (by kernel_rfl) (by kernel_rfl) rfl rfl rfl hK0 (fun w hK => Res.extract (l := [_, _]) rfl rfl rfl) ?_
                  refine AL.take 8 rfl (by kernel_rfl) (by kernel_rfl) (by kernel_rfl) rfl rfl rfl hK0 (fun w hK => Res.extract (l := [_, _]) rfl rfl rfl) ?_
                  refine AL.take 9 rfl (by kernel_rfl) (by kernel_rfl) (by kernel_rfl) rfl rfl rfl hK0 (fun w hK => Res.assign rfl rfl) ?_
                  refine AL.take 10 rfl (by kernel_rfl) (by kernel_rfl) (by kernel_rfl) rfl rfl rfl hK0 (fun w hK => Res.assign rfl rfl) ?_
                  refine AL.done (by kernel_rfl) (Blk_n (Thn_n ?_))
                  refine CW.seq ?_
                  refine CW.seq ?_
                  refine CW.region ?_
                  refine WL.step rfl (Stp.res rfl rfl (Res.move rfl rfl) ?_)
                  refine WL.step rfl (Stp.res rfl rfl (Res.neq rfl rfl rfl) ?_)
                  refine WL.nil (Thn_n ?_)
                  refine CW.condF (bF (by omega)) ?_
                  refine CW.skip (Thn_n ?_)
                  refine CW.seq ?_
                  refine CW.region ?_
                  refine WL.step rfl (Stp.res rfl rfl (Res.move rfl rfl) ?_)
                  refine WL.step rfl (Stp.res rfl rfl (Res.assign rfl rfl) ?_)
                  refine WL.step rfl (Stp.res rfl rfl (Res.assign rfl rfl) ?_)
                  refine WL.nil (Thn_n ?_)
                  refine CW.ret ?_
                  rw [tb_of hshape hpl, bytes1_6 (by omega)]
                  exact fq_tmp2 rfl rfl rfl ⟨_, hS, ((hG2.trans hG9).trans hG47).1, ((hG2.trans hG9).trans hG47).2, _, _, rfl, hx46⟩
                · refine CW.skip (Blk_n (Thn_n ?_))
                  refine CW.seq ?_
                  refine CW.seq ?_
                  refine CW.region ?_
                  refine WL.step rfl (Stp.res rfl rfl (Res.move rfl rfl) ?_)
                  refine WL.step rfl (Stp.res rfl rfl (Res.neq rfl rfl rfl) ?_)
                  refine WL.nil (Thn_n ?_)
                  refine CW.condF (bF (by omega)) ?_
                  refine CW.skip (Thn_n ?_)
                  refine CW.seq ?_
                  refine CW.region ?_
                  refine WL.step rfl (Stp.res rfl rfl (Res.move rfl rfl) ?_)
                  refine WL.step rfl (Stp.res rfl rfl (Res.assign rfl rfl) ?_)
                  refine WL.step rfl (Stp.res rfl rfl (Res.assign rfl rfl) ?_)
                  refine WL.nil (Thn_n ?_)
                  refine CW.ret ?_
                  exact absurd hshape (shape0 (by omega) (by omega) (by omega) (by omega) (by omega) (by omega))
theorem tbytes_ok (t : T) : BytesC 66 t := indS (p := fun t => BytesC 66 t) (fun t ih => tbytes_step t (tparts_step t ih)) t
end Go.Proofs.YtcmgimicdcchlaaGreatDoor
set_option linter.unusedSimpArgs false
set_option linter.unusedVariables false
set_option maxRecDepth 20000
namespace Go.Proofs.YtcmgimicdcchlaaGreatDoor
open Go.Proofs.Tryz
open Go Go.E Go.Trm
theorem cal106 : Callable Tryz.prog 106 := ⟨Tryz.f106, func106, rfl, by kernel_rfl⟩
theorem cal107 : Callable Tryz.prog 107 := ⟨Tryz.f107, func107, rfl, by kernel_rfl⟩
theorem cal108 : Callable Tryz.prog 108 := ⟨Tryz.f108, func108, rfl, by kernel_rfl⟩
theorem cal67 : Callable Tryz.prog 67 := ⟨Tryz.f67, func67, rfl, by kernel_rfl⟩
theorem rbytes_step (t : T) (ih : ∀ t', size t' < size t → RbytesC 67 t') : RbytesC 67 t := by
  intro da1 dc1 la1 lc1 w0 M hM hd1 hs1 hf
  have hS := hM.st
  have hfi := fine_iff.1 hf
  obtain ⟨hf1, hf2, hf3, hf4⟩ := id hfi
  clear hfi
  have hbl := hs1.len
  refine enterB (l := [.agg (TV (t) da1 dc1 la1 lc1)]) 104 func67 rfl ntmps67 rfl ?_
  refine CW.seq ?_
  refine CW.region ?_
  refine WL.step rfl (Stp.boxA (cs := TV (t) da1 dc1 la1 lc1) rfl rfl rfl rfl hS ?_)
  intro b1_0 w hbb1_0 hS hkp hnw
  obtain ⟨M2, hG2, hbb1_0_2, hS⟩ : ∃ Mx, Grow w0.heap.size M Mx ∧ Kb Mx b1_0 (.cells (TV (t) da1 dc1 la1 lc1) 32 (0, 0)) ∧ St w0 w Mx ([]) := by
    have hF := hS.freezeG (i := 0) rfl hbb1_0
    exact ⟨_, hF.2, PH.add_self _ _ _, hF.1⟩
  refine WL.step rfl (Stp.res rfl rfl (Res.assign rfl rfl) ?_)
  refine WL.step rfl (Stp.res rfl rfl (Res.assign rfl rfl) ?_)
  refine WL.nil (Thn_n ?_)
  refine CW.seq ?_
  refine CW.seq ?_
  refine CW.region ?_
  refine WL.step rfl (Stp.res rfl rfl (Res.loadAll (cs := TV (t) da1 dc1 la1 lc1) rfl rfl underlying32 rfl sz32 (hS.on _ _ hbb1_0_2)) ?_)
  refine WL.step rfl (Stp.callG (args := [.agg (TV (t) da1 dc1 la1 lc1)]) rfl rfl rfl cal106 rfl rfl hS (shape_ok (t) _ _ _ _ _ _ hS.on (hd1.mono hG2.1) (hs1.mono hG2.1)) ?_)
  rintro _ w _ hS _ ⟨rfl, rfl⟩
  refine WL.step rfl (Stp.res rfl rfl (Res.notP rfl rfl rfl) ?_)
  refine WL.nil (Thn_n ?_)
  refine CW.ite rfl (fun hc3 => ?_) (fun hc3 => ?_)
  · refine CW.seq ?_
    refine CW.region ?_
    refine WL.step rfl (Stp.res rfl rfl (Res.assign rfl rfl) ?_)
    refine WL.step rfl (Stp.res rfl rfl (Res.assign rfl rfl) ?_)
    refine WL.nil (Thn_n ?_)
    refine CW.ret (Thn_r ?_)
    rw [tb_shape hc3]
    exact fq_tmp2 rfl rfl rfl ⟨_, hS, hG2.1, hG2.2, rfl⟩
  · have hshape := Decidable.not_not.1 hc3
    refine CW.skip (Thn_n ?_)
    refine CW.seq ?_
    refine CW.region ?_
    refine WL.step rfl (Stp.lit (vals := []) (cs := #[]) (e := 30) rfl rfl (fun _ => by kernel_rfl) rfl rfl hS ?_)
    intro b14_3 w hbb14_3 hS hkp hnw
    have howw5 : OwnL M2 w0.heap.size [(b14_3, Obj.cells #[] 30 (0, 0))] (.slice (some ⟨b14_3, 0, none⟩) 0 0) [] 30 := OwnL.nil0 M2 30 hbb14_3
    change St w0 _ M2 ([(b14_3, Obj.cells #[] 30 (0, 0))] ++ ([])) at hS
    refine WL.step rfl (Stp.res rfl rfl (Res.assign rfl rfl) ?_)
    refine WL.nil (Thn_n ?_)
    refine CW.seq ?_
    refine CW.seq ?_
    refine CW.region ?_
    refine WL.step rfl (Stp.res rfl rfl (Res.assign rfl rfl) ?_)
    refine WL.nil (Thn_n ?_)
    refine CW.block ?_
    refine CW.loop (σ := Nat × List (List UInt8) × Owned × Option Addr × Nat × PH) (fun s => [(1, .pointer (some ⟨b1_0, 0, none⟩)), (4, .slice ((s.2.2.2.1)) ((s.2.1).length) ((s.2.2.2.2.1))), (5, .int .i64 (((s.1) : Nat) : Int))])
      (fun s w' => (s.1) ≤ t.subs.length ∧ tbytesL (t.subs.take (s.1)) = some (s.2.1) ∧ Grow w0.heap.size M2 (s.2.2.2.2.2) ∧ OwnL (s.2.2.2.2.2) w0.heap.size (s.2.2.1) (.slice (s.2.2.2.1) (s.2.1).length (s.2.2.2.2.1)) (s.2.1) 30 ∧ St w0 w' (s.2.2.2.2.2) ((s.2.2.1) ++ ([]))) (fun s => t.subs.length - (s.1)) (0, [], [(b14_3, Obj.cells #[] 30 (0, 0))], some ⟨b14_3, 0, none⟩, 0, M2) ⟨rfl, rfl, rfl, trivial⟩ ⟨by dsimp only; omega, by rw [List.take_zero]; rfl, Grow.refl _ _, howw5, hS⟩ ?_
    rintro ⟨i, acc, g, oa, oc, M6⟩ w ⟨hi, hacc, hG6, hown, hS⟩
    dsimp only at hi hacc hG6 hown hS ⊢
    refine CW.seq ?_
    refine CW.seq ?_
    refine CW.region ?_
    refine WL.step rfl (Stp.res rfl rfl (Res.move rfl rfl) ?_)
    refine WL.step rfl (Stp.res rfl rfl (Res.fieldA rfl rfl underlying32 rfl (show SZ Tryz.prog _ 1 from sz24) (by decide)) ?_)
    refine WL.step rfl (Stp.res rfl rfl (Res.load1 (v := .slice (la1) (t.subs.length) (lc1)) rfl rfl underlying24 rfl (hS.cell (PH.cell_of (hbb1_0_2.mono hG6.1) rfl))) ?_)
    refine WL.step rfl (Stp.res rfl rfl (Res.len rfl rfl rfl rfl underlying24) ?_)
    refine WL.step rfl (Stp.res rfl rfl (Res.lss rfl rfl rfl) ?_)
    refine WL.nil (Thn_n ?_)
    refine CW.ite rfl (fun hc7 => ?_) (fun hc7 => ?_)
    · refine CW.skip (Thn_n ?_)
      refine CW.seq ?_
      refine CW.block ?_
      refine CW.seq ?_
      rcases hcb : tbytes (t.subs.getD i T0) with _ | b
      · refine CW.region ?_
        refine WL.step rfl (Stp.res rfl rfl (Res.fieldA rfl rfl underlying32 rfl (show SZ Tryz.prog _ 1 from sz24) (by decide)) ?_)
        refine WL.step rfl (Stp.res rfl rfl (Res.load1 (v := .slice (la1) (t.subs.length) (lc1)) rfl rfl underlying24 rfl (hS.cell (PH.cell_of (hbb1_0_2.mono hG6.1) rfl))) ?_)
        refine WL.step rfl (Stp.res rfl rfl (Res.move rfl rfl) ?_)
        obtain ⟨be8, oe8, dae8, dce8, sae8, sce8, eae8, hce8, hde8, hse8⟩ := Ts2.get (j := i) hs1 (by omega)
        have hne8 := hse8.len
        refine WL.step rfl (Stp.res rfl rfl (Res.idxT 5 (k := i) rfl rfl eae8 rfl underlying24 sz32 (Int.toNat_natCast _) (by omega)) ?_)
        refine WL.step rfl (Stp.res rfl rfl (Res.loadN (r := (TV ((t.subs.getD i T0)) dae8 dce8 sae8 sce8).toList) rfl rfl underlying32 rfl sz32 rfl (fun j u hu => hS.cell (PH.cell_mono (hG2.trans hG6).1 (hce8 j u hu)))) ?_)
        refine WL.step rfl (Stp.callG (args := [.agg (TV ((t.subs.getD i T0)) dae8 dce8 sae8 sce8)]) rfl rfl rfl cal67 rfl rfl hS ((by have h := ih (t.subs.getD i T0) (by first | exact size_at (by omega) | (apply size_at; omega)) _ _ _ _ _ _ hS.on (hde8.mono (hG2.trans hG6).1) (hse8.mono (hG2.trans hG6).1) (hf.at (by omega)); rw [hcb] at h; exact h)) ?_)
        rintro _ w M10 hS hG10 rfl
        refine WL.step rfl (Stp.res rfl rfl (Res.move rfl rfl) ?_)
        refine WL.step rfl (Stp.res rfl rfl (Res.extract (l := [_, _]) rfl rfl rfl) ?_)
        refine WL.step rfl (Stp.res rfl rfl (Res.extract (l := [_, _]) rfl rfl rfl) ?_)
        refine WL.step rfl (Stp.res rfl rfl (Res.assign rfl rfl) ?_)
        refine WL.step rfl (Stp.res rfl rfl (Res.assign rfl rfl) ?_)
        refine WL.nil (Thn_n ?_)
        refine CW.seq ?_
        refine CW.seq ?_
        refine CW.region ?_
        refine WL.step rfl (Stp.res rfl rfl (Res.move rfl rfl) ?_)
        refine WL.step rfl (Stp.res rfl rfl (Res.neq rfl rfl rfl) ?_)
        refine WL.nil (Thn_n ?_)
        refine CW.condT (bT (by omega)) ?_
        refine CW.seq ?_
        refine CW.region ?_
        refine WL.step rfl (Stp.res rfl rfl (Res.move rfl rfl) ?_)
        refine WL.step rfl (Stp.res rfl rfl (Res.assign rfl rfl) ?_)
        refine WL.step rfl (Stp.res rfl rfl (Res.assign rfl rfl) ?_)
        refine WL.nil (Thn_n ?_)
        refine CW.ret (Thn_r (Blk_r (Thn_r (Thn_r (Blk_r (Thn_r ?_))))))
        rw [tb_parts (tbL_no (by omega) hcb)]
        exact fq_tmp2 rfl rfl rfl ⟨_, (hown.dropS hS), ((hG2.trans hG6).trans hG10).1, ((hG2.trans hG6).trans hG10).2, rfl⟩
      · refine CW.region ?_
        refine WL.step rfl (Stp.res rfl rfl (Res.fieldA rfl rfl underlying32 rfl (show SZ Tryz.prog _ 1 from sz24) (by decide)) ?_)
        refine WL.step rfl (Stp.res rfl rfl (Res.load1 (v := .slice (la1) (t.subs.length) (lc1)) rfl rfl underlying24 rfl (hS.cell (PH.cell_of (hbb1_0_2.mono hG6.1) rfl))) ?_)
        refine WL.step rfl (Stp.res rfl rfl (Res.move rfl rfl) ?_)
        obtain ⟨be11, oe11, dae11, dce11, sae11, sce11, eae11, hce11, hde11, hse11⟩ := Ts2.get (j := i) hs1 (by omega)
        have hne11 := hse11.len
        refine WL.step rfl (Stp.res rfl rfl (Res.idxT 5 (k := i) rfl rfl eae11 rfl underlying24 sz32 (Int.toNat_natCast _) (by omega)) ?_)
        refine WL.step rfl (Stp.res rfl rfl (Res.loadN (r := (TV ((t.subs.getD i T0)) dae11 dce11 sae11 sce11).toList) rfl rfl underlying32 rfl sz32 rfl (fun j u hu => hS.cell (PH.cell_mono (hG2.trans hG6).1 (hce11 j u hu)))) ?_)
        refine WL.step rfl (Stp.callG (args := [.agg (TV ((t.subs.getD i T0)) dae11 dce11 sae11 sce11)]) rfl rfl rfl cal67 rfl rfl hS ((by have h := ih (t.subs.getD i T0) (by first | exact size_at (by omega) | (apply size_at; omega)) _ _ _ _ _ _ hS.on (hde11.mono (hG2.trans hG6).1) (hse11.mono (hG2.trans hG6).1) (hf.at (by omega)); rw [hcb] at h; exact h)) ?_)
        rintro _ w M13 hS hG13 ⟨ay12, cy12, rfl, hy12⟩
        refine WL.step rfl (Stp.res rfl rfl (Res.move rfl rfl) ?_)
        refine WL.step rfl (Stp.res rfl rfl (Res.extract (l := [_, _]) rfl rfl rfl) ?_)
        refine WL.step rfl (Stp.res rfl rfl (Res.extract (l := [_, _]) rfl rfl rfl) ?_)
        refine WL.step rfl (Stp.res rfl rfl (Res.assign rfl rfl) ?_)
        refine WL.step rfl (Stp.res rfl rfl (Res.assign rfl rfl) ?_)
        refine WL.nil (Thn_n ?_)
        refine CW.seq ?_
        refine CW.seq ?_
        refine CW.region ?_
        refine WL.step rfl (Stp.res rfl rfl (Res.move rfl rfl) ?_)
        refine WL.step rfl (Stp.res rfl rfl (Res.neq rfl rfl rfl) ?_)
        refine WL.nil (Thn_n ?_)
        refine CW.condF (bF (by omega)) ?_
        refine CW.skip (Thn_n ?_)
        refine CW.region ?_
        refine WL.step rfl (Stp.res rfl rfl (Res.move rfl rfl) ?_)
        refine WL.step rfl (Stp.res rfl rfl (Res.move rfl rfl) ?_)
        refine WL.step rfl (Stp.lit (vals := [(0, .slice (ay12) ((b).length) (cy12))]) (cs := #[.slice (ay12) ((b).length) (cy12)]) (e := 30) rfl rfl (fun _ => by kernel_rfl) rfl rfl hS ?_)
        intro b36_13 w hbb36_13 hS hkp hnw
        obtain ⟨M15, hG15, hbb36_13_15, hS⟩ : ∃ Mx, Grow w0.heap.size M13 Mx ∧ Kb Mx b36_13 (.cells (#[.slice (ay12) ((b).length) (cy12)]) 30 (0, 0)) ∧ St w0 w Mx (g ++ ([])) := by
          have hF := hS.freezeG (i := 0) rfl hbb36_13
          exact ⟨_, hF.2, PH.add_self _ _ _, hF.1⟩
        refine WL.step rfl (Stp.appendL (r := b) rfl rfl rfl rfl etL rfl underlying94 hbb36_13_15 (hy12.mono hG15.1) hS (hown.mono (hG13.trans hG15).1) (by first | (have h7 := tbL_len hacc; rw [List.length_take] at h7; omega) | (simp; done) | (simp; omega)) (by decide) rfl rfl ?_)
        intro aw16 cw16 w gw16 hS howw16
        refine WL.step rfl (Stp.res rfl rfl (Res.assign rfl rfl) ?_)
        refine WL.nil (Blk_n (Thn_n ?_))
        refine CW.region ?_
        refine WL.step rfl (Stp.res rfl rfl (Res.move rfl rfl) ?_)
        refine WL.step rfl (Stp.res rfl rfl (Res.cast (Res.add rfl rfl rfl (by omega)) (show _ = (.int .i64 ((i + 1 : Nat) : Int) : Value) from congrArg (Value.int .i64) (by omega))) ?_)
        refine WL.step rfl (Stp.res rfl rfl (Res.assign rfl rfl) ?_)
        refine WL.nil (Thn_n ?_)
        have hac2 := tbL_next (by omega) hacc hcb
        have htl := tbL_len hac2
        rw [List.length_take] at htl
        have hla : (acc ++ [b]).length = acc.length + 1 := by simp
        exact ⟨(i + 1, acc ++ [b], gw16, aw16, cw16, M15), ⟨(rfl), (by first | rfl | exact intc (by omega)), (by first | rfl | exact intc (by omega)), trivial⟩, ⟨by dsimp only; omega, hac2, ((hG6.trans hG13).trans hG15), howw16, hS⟩, by dsimp only; omega⟩
    · refine CW.exit (Thn_x (Thn_x (Blk_x (Thn_n ?_))))
      refine CW.seq ?_
      obtain rfl : i = t.subs.length := by omega
      rw [List.take_length] at hacc
      have hpl := hacc
      have hll := tbL_len hpl
      obtain ⟨M17, hS, hG17, hgv18⟩ := hown.give hS
      refine CW.region ?_
      refine WL.step rfl (Stp.lit (vals := []) (cs := #[]) (e := 5) rfl rfl (fun _ => by kernel_rfl) rfl rfl hS ?_)
      intro b38_18 w hbb38_18 hS hkp hnw
      have howw20 : OwnB w0.heap.size [(b38_18, Obj.cells #[] 5 (0, 0))] (.slice (some ⟨b38_18, 0, none⟩) 0 0) [] 5 := OwnB.of (l := []) hbb38_18 (Nat.le_refl 0) (by omega) [] rfl rfl
      change St w0 _ M17 ([(b38_18, Obj.cells #[] 5 (0, 0))] ++ ([])) at hS
      refine WL.step rfl (Stp.res rfl rfl (Res.assign rfl rfl) ?_)
      refine WL.step rfl (Stp.res rfl rfl (Res.assign rfl rfl) ?_)
      refine WL.nil (Thn_n ?_)
      refine CW.seq ?_
      refine CW.seq ?_
      refine CW.region ?_
      refine WL.step rfl (Stp.res rfl rfl (Res.fieldA rfl rfl underlying32 rfl (show SZ Tryz.prog _ 1 from sz3) (by decide)) ?_)
      refine WL.step rfl (Stp.res rfl rfl (Res.load1 (v := .int .i64 (t.kind)) rfl rfl underlying3 rfl (hS.cell (PH.cell_of (hbb1_0_2.mono (hG6.trans hG17).1) rfl))) ?_)
      refine WL.nil (Thn_n ?_)
      refine CW.block ?_
      refine CW.seq ?_
      refine CW.region ?_
      refine WL.step rfl (Stp.res rfl rfl (Res.eql rfl rfl rfl) ?_)
      refine WL.step rfl (Stp.res rfl rfl (Res.assign rfl rfl) ?_)
      refine WL.nil (Thn_n ?_)
      refine CW.ite rfl (fun hc21 => ?_) (fun hc21 => ?_)
      · refine CW.region ?_
        refine WL.step rfl (Stp.res rfl rfl (Res.fieldA rfl rfl underlying32 rfl (show SZ Tryz.prog _ 1 from sz30) (by decide)) ?_)
        refine WL.step rfl (Stp.res rfl rfl (Res.load1 (v := .slice (da1) (t.data.length) (dc1)) rfl rfl underlying30 rfl (hS.cell (PH.cell_of (hbb1_0_2.mono (hG6.trans hG17).1) rfl))) ?_)
        refine WL.step rfl (Stp.callG (args := [.slice (da1) (t.data.length) (dc1)]) rfl rfl rfl cal36 rfl rfl hS (bytes_ok _ (t.data) _ _ hS.on (hd1.mono ((hG2.trans hG6).trans hG17).1) (by first | omega | (simp; done) | (simp; omega))) ?_)
        rintro vy22 w M23 hS hG23 hy22
        obtain ⟨ay22, cy22, rfl, -, -, -, -⟩ := id hy22
        refine WL.step rfl (Stp.res rfl rfl (Res.assign rfl rfl) ?_)
        refine WL.nil (Blk_n (Thn_n ?_))
        refine CW.seq ?_
        refine CW.seq ?_
        refine CW.region ?_
        refine WL.step rfl (Stp.res rfl rfl (Res.move rfl rfl) ?_)
        refine WL.step rfl (Stp.res rfl rfl (Res.neq rfl rfl rfl) ?_)
        refine WL.nil (Thn_n ?_)
        refine CW.condF (bF (by omega)) ?_
        refine CW.skip (Thn_n ?_)
        refine CW.seq ?_
        refine CW.region ?_
        refine WL.step rfl (Stp.res rfl rfl (Res.move rfl rfl) ?_)
        refine WL.step rfl (Stp.res rfl rfl (Res.assign rfl rfl) ?_)
        refine WL.step rfl (Stp.res rfl rfl (Res.assign rfl rfl) ?_)
        refine WL.nil (Thn_n ?_)
        refine CW.ret ?_
        rw [tb_of hshape hpl, bytes1_1 (by omega)]
        exact fq_tmp2 rfl rfl rfl ⟨_, (howw20.dropS hS), (((hG2.trans hG6).trans hG17).trans hG23).1, (((hG2.trans hG6).trans hG17).trans hG23).2, _, _, rfl, hy22⟩
      · refine CW.seq ?_
        refine CW.region ?_
        refine WL.step rfl (Stp.res rfl rfl (Res.eql rfl rfl rfl) ?_)
        refine WL.step rfl (Stp.res rfl rfl (Res.assign rfl rfl) ?_)
        refine WL.nil (Thn_n ?_)
        refine CW.ite rfl (fun hc24 => ?_) (fun hc24 => ?_)
        · refine CW.region ?_
          refine WL.step rfl (Stp.res rfl rfl (Res.fieldA rfl rfl underlying32 rfl (show SZ Tryz.prog _ 1 from sz9) (by decide)) ?_)
          refine WL.step rfl (Stp.res rfl rfl (Res.load1 (v := Go.E.str (t.name)) rfl rfl underlying9 rfl (hS.cell (PH.cell_of (hbb1_0_2.mono (hG6.trans hG17).1) rfl))) ?_)
          refine WL.step rfl (Stp.s2b (l := t.name) rfl rfl underlying9 underlying30 underlying5 (by omega) hS rfl rfl ?_)
          intro w v M25 hS hG25 hsb26
          obtain ⟨asb26, csb26, rfl, -, -, -, -⟩ := id hsb26
          refine WL.step rfl (Stp.callG (args := [.slice (asb26) ((t.name).length) (csb26), .slice (none) (0) (0), Go.E.str ([115, 101, 99, 114, 101, 116]), .int .i64 ((16 : Nat) : Int)]) rfl rfl rfl cal107 rfl rfl hS (qderive_ok (t.name) ([115, 101, 99, 114, 101, 116]) _ _ _ _ hS.on hsb26 (by first | omega | (simp; done) | (simp; omega)) (by decide)) ?_)
          rintro _ w M28 hS hG28 ⟨sx27, rfl, hx27⟩
          obtain ⟨ax27, cx27, rfl, -, -, -, -⟩ := id hx27
          refine WL.step rfl (Stp.res rfl rfl (Res.move rfl rfl) ?_)
          refine WL.step rfl (Stp.res rfl rfl (Res.extract (l := [_, _]) rfl rfl rfl) ?_)
          refine WL.step rfl (Stp.res rfl rfl (Res.extract (l := [_, _]) rfl rfl rfl) ?_)
          refine WL.step rfl (Stp.res rfl rfl (Res.assign rfl rfl) ?_)
          refine WL.step rfl (Stp.res rfl rfl (Res.assign rfl rfl) ?_)
          refine WL.nil (Blk_n (Thn_n ?_))
          refine CW.seq ?_
          refine CW.seq ?_
          refine CW.region ?_
          refine WL.step rfl (Stp.res rfl rfl (Res.move rfl rfl) ?_)
          refine WL.step rfl (Stp.res rfl rfl (Res.neq rfl rfl rfl) ?_)
          refine WL.nil (Thn_n ?_)
          refine CW.condF (bF (by omega)) ?_
          refine CW.skip (Thn_n ?_)
          refine CW.seq ?_
          refine CW.region ?_
          refine WL.step rfl (Stp.res rfl rfl (Res.move rfl rfl) ?_)
          refine WL.step rfl (Stp.res rfl rfl (Res.assign rfl rfl) ?_)
          refine WL.step rfl (Stp.res rfl rfl (Res.assign rfl rfl) ?_)
          refine WL.nil (Thn_n ?_)
          refine CW.ret ?_
          rw [tb_of hshape hpl, bytes1_2 (by omega)]
          exact fq_tmp2 rfl rfl rfl ⟨_, (howw20.dropS hS), ((((hG2.trans hG6).trans hG17).trans hG25).trans hG28).1, ((((hG2.trans hG6).trans hG17).trans hG25).trans hG28).2, _, _, rfl, hx27⟩
        · refine CW.seq ?_
          refine CW.region ?_
          refine WL.step rfl (Stp.res rfl rfl (Res.eql rfl rfl rfl) ?_)
          refine WL.step rfl (Stp.res rfl rfl (Res.assign rfl rfl) ?_)
          refine WL.nil (Thn_n ?_)
          refine CW.ite rfl (fun hc29 => ?_) (fun hc29 => ?_)
          · refine CW.region ?_
            refine WL.step rfl (Stp.res rfl rfl (Res.move rfl rfl) ?_)
            refine WL.step rfl (Stp.callG (args := [.slice (oa) (acc.length) (oc)]) rfl rfl rfl cal108 rfl rfl hS (qlist_ok acc _ _ _ _ hS.on hgv18) ?_)
            rintro _ w M31 hS hG31 ⟨sx30, rfl, hx30⟩
            obtain ⟨ax30, cx30, rfl, -, -, -, -⟩ := id hx30
            refine WL.step rfl (Stp.res rfl rfl (Res.move rfl rfl) ?_)
            refine WL.step rfl (Stp.res rfl rfl (Res.extract (l := [_, _]) rfl rfl rfl) ?_)
            refine WL.step rfl (Stp.res rfl rfl (Res.extract (l := [_, _]) rfl rfl rfl) ?_)
            refine WL.step rfl (Stp.res rfl rfl (Res.assign rfl rfl) ?_)
            refine WL.step rfl (Stp.res rfl rfl (Res.assign rfl rfl) ?_)
            refine WL.nil (Blk_n (Thn_n ?_))
            refine CW.seq ?_
            refine CW.seq ?_
            refine CW.region ?_
            refine WL.step rfl (Stp.res rfl rfl (Res.move rfl rfl) ?_)
            refine WL.step rfl (Stp.res rfl rfl (Res.neq rfl rfl rfl) ?_)
            refine WL.nil (Thn_n ?_)
            refine CW.ite rfl (fun hc32 => ?_) (fun hc32 => ?_)
            · refine CW.seq ?_
              refine CW.region ?_
              refine WL.step rfl (Stp.res rfl rfl (Res.assign rfl rfl) ?_)
              refine WL.step rfl (Stp.res rfl rfl (Res.assign rfl rfl) ?_)
              refine WL.nil (Thn_n ?_)
              refine CW.ret (Thn_r ?_)
              rw [tb_of hshape hpl, bytes1_3 (by omega), ofE_no hc32]
              exact fq_tmp2 rfl rfl rfl ⟨_, (howw20.dropS hS), (((hG2.trans hG6).trans hG17).trans hG31).1, (((hG2.trans hG6).trans hG17).trans hG31).2, rfl⟩
            · refine CW.skip (Thn_n ?_)
              refine CW.seq ?_
              refine CW.region ?_
              refine WL.step rfl (Stp.res rfl rfl (Res.move rfl rfl) ?_)
              refine WL.step rfl (Stp.res rfl rfl (Res.assign rfl rfl) ?_)
              refine WL.step rfl (Stp.res rfl rfl (Res.assign rfl rfl) ?_)
              refine WL.nil (Thn_n ?_)
              refine CW.ret ?_
              rw [tb_of hshape hpl, bytes1_3 (by omega), ofE_yes hc32]
              exact fq_tmp2 rfl rfl rfl ⟨_, (howw20.dropS hS), (((hG2.trans hG6).trans hG17).trans hG31).1, (((hG2.trans hG6).trans hG17).trans hG31).2, _, _, rfl, hx30⟩
          · refine CW.seq ?_
            refine CW.region ?_
            refine WL.step rfl (Stp.res rfl rfl (Res.eql rfl rfl rfl) ?_)
            refine WL.step rfl (Stp.res rfl rfl (Res.assign rfl rfl) ?_)
            refine WL.nil (Thn_n ?_)
            refine CW.ite rfl (fun hc33 => ?_) (fun hc33 => ?_)
            · have hsh := (shape4 (by omega)).1 hshape
              have hb0 := bytes_at hf hpl (j := 0) (by omega)
              have hb1 := bytes_at hf hpl (j := 1) (by omega)
              have hS := hS.drew
              have hK0 : On M17 w := hS.on
              refine CW.held (fun w => On M17 w) mixed ?_
              refine AL.take 0 rfl (by kernel_rfl) (by kernel_rfl) (by kernel_rfl) rfl rfl rfl hK0 (fun w hK => Res.move rfl rfl) ?_
              obtain ⟨be35, oe35, dae35, dce35, eae35, hce35, hde35⟩ := Ls.get (j := 0) hgv18 (by omega)
              have hne35 := hde35.len
              refine AL.take 1 rfl (by kernel_rfl) (by kernel_rfl) (by kernel_rfl) rfl rfl rfl hK0 (fun w hK => Res.idxT1 (k := 0) rfl rfl eae35 rfl underlying94 sz30 (show (0 : Int).toNat = 0 from rfl) (by omega)) ?_
              refine AL.take 2 rfl (by kernel_rfl) (by kernel_rfl) (by kernel_rfl) rfl rfl rfl hK0 (fun w hK => Res.load1 (v := .slice (dae35) ((acc.getD 0 []).length) (dce35)) rfl rfl underlying30 rfl (hK.st.cell hce35)) ?_
              refine AL.take 3 rfl (by kernel_rfl) (by kernel_rfl) (by kernel_rfl) rfl rfl rfl hK0 (fun w hK => Res.fieldA rfl rfl underlying32 rfl (show SZ Tryz.prog _ 1 from sz3) (by decide)) ?_
              refine AL.take 4 rfl (by kernel_rfl) (by kernel_rfl) (by kernel_rfl) rfl rfl rfl hK0 (fun w hK => Res.load1 (v := .int .i64 (t.num)) rfl rfl underlying3 rfl (hK.st.cell (PH.cell_of (hbb1_0_2.mono (hG6.trans hG17).1) rfl))) ?_
              refine AL.take 5 rfl (by kernel_rfl) (by kernel_rfl) (by kernel_rfl) rfl rfl rfl hK0 (fun w hK => Res.fieldA rfl rfl underlying32 rfl (show SZ Tryz.prog _ 1 from sz30) (by decide)) ?_
              refine AL.take 6 rfl (by kernel_rfl) (by kernel_rfl) (by kernel_rfl) rfl rfl rfl hK0 (fun w hK => Res.load1 (v := .slice (da1) (t.data.length) (dc1)) rfl rfl underlying30 rfl (hK.st.cell (PH.cell_of (hbb1_0_2.mono (hG6.trans hG17).1) rfl))) ?_
              refine AL.take 7 rfl (by kernel_rfl) (by kernel_rfl) (by kernel_rfl) rfl rfl rfl hK0 (fun w hK => Res.move rfl rfl) ?_
              obtain ⟨be36, oe36, dae36, dce36, eae36, hce36, hde36⟩ := Ls.get (j := 1) hgv18 (by omega)
              have hne36 := hde36.len
              refine AL.take 8 rfl (by kernel_rfl) (by kernel_rfl) (by kernel_rfl) rfl rfl rfl hK0 (fun w hK => Res.idxT1 (k := 1) rfl rfl eae36 rfl underlying94 sz30 (show (1 : Int).toNat = 1 from rfl) (by omega)) ?_
              refine AL.take 9 rfl (by kernel_rfl) (by kernel_rfl) (by kernel_rfl) rfl rfl rfl hK0 (fun w hK => Res.load1 (v := .slice (dae36) ((acc.getD 1 []).length) (dce36)) rfl rfl underlying30 rfl (hK.st.cell hce36)) ?_
              refine AL.one 10 rfl (by kernel_rfl) rfl (Stp.callG (args := [.slice (dae35) ((acc.getD 0 []).length) (dce35), .int .i64 (t.num), .slice (da1) (t.data.length) (dc1), .slice (dae36) ((acc.getD 1 []).length) (dce36)]) rfl rfl rfl cal90 rfl rfl hS (qseal_all _ _ _ ((acc.getD 0 [])) (t.data) ((acc.getD 1 [])) t.num _ _ hS.on hde35 (hd1.mono ((hG2.trans hG6).trans hG17).1) hde36) ?_)
              rintro _ w M38 hS hG38 ⟨sx37, rfl, hx37⟩
              obtain ⟨ax37, cx37, rfl, -, -, -, -⟩ := id hx37
              have hK0 : On M17 w := (hS.known hG38.1).on
              refine ⟨hK0, ?_⟩
              refine AL.take 11 rfl (by kernel_rfl) (by kernel_rfl) (by kernel_rfl) rfl rfl rfl hK0 (fun w hK => Res.move rfl rfl) ?_
              refine AL.take 12 rfl (by kernel_rfl) (by kernel_rfl) (by kernel_rfl) rfl rfl rfl hK0 (fun w hK => Res.extract (l := [_, _]) rfl rfl rfl) ?_
              refine AL.take 13 rfl (by kernel_rfl) (by kernel_rfl) (by kernel_rfl) rfl rfl rfl hK0 (fun w hK => Res.extract (l := [_, _]) rfl rfl rfl) ?_
              refine AL.take 14 rfl (by kernel_rfl) (by kernel_rfl) (by kernel_rfl) rfl rfl rfl hK0 (fun w hK => Res.assign rfl rfl) ?_
              refine AL.take 15 rfl (by kernel_rfl) (by kernel_rfl) (by kernel_rfl) rfl rfl rfl hK0 (fun w hK => Res.assign rfl rfl) ?_
              refine AL.done (by kernel_rfl) (Blk_n (Thn_n ?_))
              refine CW.seq ?_
              refine CW.seq ?_
              refine CW.region ?_
              refine WL.step rfl (Stp.res rfl rfl (Res.move rfl rfl) ?_)
              refine WL.step rfl (Stp.res rfl rfl (Res.neq rfl rfl rfl) ?_)
              refine WL.nil (Thn_n ?_)
              refine CW.ite rfl (fun hc39 => ?_) (fun hc39 => ?_)
              · refine CW.seq ?_
                refine CW.region ?_
                refine WL.step rfl (Stp.res rfl rfl (Res.assign rfl rfl) ?_)
                refine WL.step rfl (Stp.res rfl rfl (Res.assign rfl rfl) ?_)
                refine WL.nil (Thn_n ?_)
                refine CW.ret (Thn_r ?_)
                rw [tb_of hshape hpl, bytes1_4 (by omega), ofE_no hc39]
                exact fq_tmp2 rfl rfl rfl ⟨_, (howw20.dropS hS), (((hG2.trans hG6).trans hG17).trans hG38).1, (((hG2.trans hG6).trans hG17).trans hG38).2, rfl⟩
              · refine CW.skip (Thn_n ?_)
                refine CW.seq ?_
                refine CW.region ?_
                refine WL.step rfl (Stp.res rfl rfl (Res.move rfl rfl) ?_)
                refine WL.step rfl (Stp.res rfl rfl (Res.assign rfl rfl) ?_)
                refine WL.step rfl (Stp.res rfl rfl (Res.assign rfl rfl) ?_)
                refine WL.nil (Thn_n ?_)
                refine CW.ret ?_
                rw [tb_of hshape hpl, bytes1_4 (by omega), ofE_yes hc39]
                exact fq_tmp2 rfl rfl rfl ⟨_, (howw20.dropS hS), (((hG2.trans hG6).trans hG17).trans hG38).1, (((hG2.trans hG6).trans hG17).trans hG38).2, _, _, rfl, hx37⟩
            · refine CW.seq ?_
              refine CW.region ?_
              refine WL.step rfl (Stp.res rfl rfl (Res.eql rfl rfl rfl) ?_)
              refine WL.step rfl (Stp.res rfl rfl (Res.assign rfl rfl) ?_)
              refine WL.nil (Thn_n ?_)
              refine CW.ite rfl (fun hc40 => ?_) (fun hc40 => ?_)
              · have hsh := (shape5 (by omega)).1 hshape
                have hb0 := bytes_at hf hpl (j := 0) (by omega)
                have hb1 := bytes_at hf hpl (j := 1) (by omega)
                refine CW.seq ?_
                have hS := hS.drew
                have hK0 : On M17 w := hS.on
                refine CW.held (fun w => On M17 w) mixed ?_
                refine AL.take 0 rfl (by kernel_rfl) (by kernel_rfl) (by kernel_rfl) rfl rfl rfl hK0 (fun w hK => Res.move rfl rfl) ?_
                obtain ⟨be42, oe42, dae42, dce42, eae42, hce42, hde42⟩ := Ls.get (j := 0) hgv18 (by omega)
                have hne42 := hde42.len
                refine AL.take 1 rfl (by kernel_rfl) (by kernel_rfl) (by kernel_rfl) rfl rfl rfl hK0 (fun w hK => Res.idxT1 (k := 0) rfl rfl eae42 rfl underlying94 sz30 (show (0 : Int).toNat = 0 from rfl) (by omega)) ?_
                refine AL.take 2 rfl (by kernel_rfl) (by kernel_rfl) (by kernel_rfl) rfl rfl rfl hK0 (fun w hK => Res.load1 (v := .slice (dae42) ((acc.getD 0 []).length) (dce42)) rfl rfl underlying30 rfl (hK.st.cell hce42)) ?_
                refine AL.take 3 rfl (by kernel_rfl) (by kernel_rfl) (by kernel_rfl) rfl rfl rfl hK0 (fun w hK => Res.move rfl rfl) ?_
                obtain ⟨be43, oe43, dae43, dce43, eae43, hce43, hde43⟩ := Ls.get (j := 1) hgv18 (by omega)
                have hne43 := hde43.len
                refine AL.take 4 rfl (by kernel_rfl) (by kernel_rfl) (by kernel_rfl) rfl rfl rfl hK0 (fun w hK => Res.idxT1 (k := 1) rfl rfl eae43 rfl underlying94 sz30 (show (1 : Int).toNat = 1 from rfl) (by omega)) ?_
                refine AL.take 5 rfl (by kernel_rfl) (by kernel_rfl) (by kernel_rfl) rfl rfl rfl hK0 (fun w hK => Res.load1 (v := .slice (dae43) ((acc.getD 1 []).length) (dce43)) rfl rfl underlying30 rfl (hK.st.cell hce43)) ?_
                refine AL.twoG 6 7 rfl rfl (by kernel_rfl) (Wan.none rfl) (Wan.none rfl) ?_ ?_
                · refine Stp.callG (args := [.slice (dae42) ((acc.getD 0 []).length) (dce42), .slice (dae43) ((acc.getD 1 []).length) (dce43)]) rfl rfl rfl cal109 rfl rfl hS (qmac_ok _ _ ((acc.getD 0 [])) ((acc.getD 1 [])) _ _ hS.on hde42 hde43 (by first | omega | (simp; done) | (simp; omega)) (by first | omega | (simp; done) | (simp; omega))) ?_
                  rintro _ w _ hS _ ⟨rfl, rfl⟩
                  have hK0 : On M17 w := hS.on
                  refine ⟨hK0, ?_⟩
                  refine AL.one 7 rfl (by kernel_rfl) rfl (Stp.alloc (cs := bs (List.replicate 32 0)) rfl zt143 rfl rfl rfl hS ?_)
                  intro b10_43 w hbb10_43 hS hkp hnw
                  have hK0 : On M17 w := hS.on
                  refine ⟨hK0, ?_⟩
                  refine AL.one 8 rfl (by kernel_rfl) rfl (Stp.storeAllB 0 rfl rfl rfl sz143 rfl hS rfl (by simp) ?_)
                  intro w hS hpt
                  change St w0 _ M17 ((b10_43, .cells (bs (Mac.sum ((acc.getD 0 [])) ((acc.getD 1 [])))) 143 (0, 0)) :: ([(b38_18, Obj.cells #[] 5 (0, 0))] ++ ([]))) at hS
                  obtain ⟨M45, hG45, hbb10_43_45, hS⟩ : ∃ Mx, Grow w0.heap.size M17 Mx ∧ Kb Mx b10_43 (.cells (bs (Mac.sum ((acc.getD 0 [])) ((acc.getD 1 [])))) 143 (0, 0)) ∧ St w0 w Mx ([(b38_18, Obj.cells #[] 5 (0, 0))] ++ ([])) := by
                    have hF := hS.freezeG (i := 0) rfl hbb10_43
                    exact ⟨_, hF.2, PH.add_self _ _ _, hF.1⟩
                  have hK0 : On M17 w := (hS.known hG45.1).on
                  refine ⟨hK0, ?_⟩
                  refine AL.done (by kernel_rfl) (Thn_n ?_)
                  refine CW.region ?_
                  refine WL.step rfl (Stp.res rfl rfl (Res.move rfl rfl) ?_)
                  refine WL.step rfl (Stp.res rfl rfl (Res.sliceA rfl rfl underlying143 (by decide) sz5) ?_)
                  refine WL.step rfl (Stp.appendB (l := []) (r := Mac.sum ((acc.getD 0 [])) ((acc.getD 1 []))) rfl rfl rfl rfl etB (Src.ofBs underlying30 hS (Bs.of' (k := 32) hbb10_43_45 (by simp) (by omega))) hS howw20 (by first | (simp; done) | (simp; omega)) rfl rfl ?_)
                  intro vw46 w gw46 hS howw46
                  obtain ⟨aw46, cw46, rfl, l1w46, l2w46⟩ := howw46.slice
                  have hlw46 : ([] ++ (Mac.sum ((acc.getD 0 [])) ((acc.getD 1 [])))).length = ([]).length + (Mac.sum ((acc.getD 0 [])) ((acc.getD 1 []))).length := List.length_append
                  refine WL.step rfl (Stp.res rfl rfl (Res.assign rfl rfl) ?_)
                  refine WL.nil (Blk_n (Thn_n ?_))
                  refine CW.seq ?_
                  refine CW.seq ?_
                  refine CW.region ?_
                  refine WL.step rfl (Stp.res rfl rfl (Res.move rfl rfl) ?_)
                  refine WL.step rfl (Stp.res rfl rfl (Res.neq rfl rfl rfl) ?_)
                  refine WL.nil (Thn_n ?_)
                  refine CW.condF (bF (by omega)) ?_
                  refine CW.skip (Thn_n ?_)
                  refine CW.seq ?_
                  refine CW.region ?_
                  refine WL.step rfl (Stp.res rfl rfl (Res.move rfl rfl) ?_)
                  refine WL.step rfl (Stp.res rfl rfl (Res.assign rfl rfl) ?_)
                  refine WL.step rfl (Stp.res rfl rfl (Res.assign rfl rfl) ?_)
                  refine WL.nil (Thn_n ?_)
                  refine CW.ret ?_
                  obtain ⟨M47, hS, hlegv48, hfrgv48, hgv48⟩ := howw46.give hS
                  have hG47 : Grow w0.heap.size M45 M47 := ⟨hlegv48, hfrgv48⟩
                  rw [tb_of hshape hpl, bytes1_5 (by omega), ← List.nil_append (Mac.sum _ _)]
                  exact fq_tmp2 rfl rfl rfl ⟨_, hS, ((((hG2.trans hG6).trans hG17).trans hG45).trans hG47).1, ((((hG2.trans hG6).trans hG17).trans hG45).trans hG47).2, _, _, rfl, hgv48⟩
                · refine Stp.alloc (cs := bs (List.replicate 32 0)) rfl zt143 rfl rfl rfl hS ?_
                  intro b10_48 w hbb10_48 hS hkp hnw
                  have hK0 : On M17 w := hS.on
                  refine ⟨hK0, ?_⟩
                  refine AL.one 6 rfl (by kernel_rfl) rfl (Stp.callG (args := [.slice (dae42) ((acc.getD 0 []).length) (dce42), .slice (dae43) ((acc.getD 1 []).length) (dce43)]) rfl rfl rfl cal109 rfl rfl hS (qmac_ok _ _ ((acc.getD 0 [])) ((acc.getD 1 [])) _ _ hS.on hde42 hde43 (by first | omega | (simp; done) | (simp; omega)) (by first | omega | (simp; done) | (simp; omega))) ?_)
                  rintro _ w _ hS _ ⟨rfl, rfl⟩
                  have hK0 : On M17 w := hS.on
                  refine ⟨hK0, ?_⟩
                  refine AL.one 8 rfl (by kernel_rfl) rfl (Stp.storeAllB 0 rfl rfl rfl sz143 rfl hS rfl (by simp) ?_)
                  intro w hS hpt
                  change St w0 _ M17 ((b10_48, .cells (bs (Mac.sum ((acc.getD 0 [])) ((acc.getD 1 [])))) 143 (0, 0)) :: ([(b38_18, Obj.cells #[] 5 (0, 0))] ++ ([]))) at hS
                  obtain ⟨M50, hG50, hbb10_48_50, hS⟩ : ∃ Mx, Grow w0.heap.size M17 Mx ∧ Kb Mx b10_48 (.cells (bs (Mac.sum ((acc.getD 0 [])) ((acc.getD 1 [])))) 143 (0, 0)) ∧ St w0 w Mx ([(b38_18, Obj.cells #[] 5 (0, 0))] ++ ([])) := by
                    have hF := hS.freezeG (i := 0) rfl hbb10_48
                    exact ⟨_, hF.2, PH.add_self _ _ _, hF.1⟩
                  have hK0 : On M17 w := (hS.known hG50.1).on
                  refine ⟨hK0, ?_⟩
                  refine AL.done (by kernel_rfl) (Thn_n ?_)
                  refine CW.region ?_
                  refine WL.step rfl (Stp.res rfl rfl (Res.move rfl rfl) ?_)
                  refine WL.step rfl (Stp.res rfl rfl (Res.sliceA rfl rfl underlying143 (by decide) sz5) ?_)
                  refine WL.step rfl (Stp.appendB (l := []) (r := Mac.sum ((acc.getD 0 [])) ((acc.getD 1 []))) rfl rfl rfl rfl etB (Src.ofBs underlying30 hS (Bs.of' (k := 32) hbb10_48_50 (by simp) (by omega))) hS howw20 (by first | (simp; done) | (simp; omega)) rfl rfl ?_)
                  intro vw51 w gw51 hS howw51
                  obtain ⟨aw51, cw51, rfl, l1w51, l2w51⟩ := howw51.slice
                  have hlw51 : ([] ++ (Mac.sum ((acc.getD 0 [])) ((acc.getD 1 [])))).length = ([]).length + (Mac.sum ((acc.getD 0 [])) ((acc.getD 1 []))).length := List.length_append
                  refine WL.step rfl (Stp.res rfl rfl (Res.assign rfl rfl) ?_)
                  refine WL.nil (Blk_n (Thn_n ?_))
                  refine CW.seq ?_
                  refine CW.seq ?_
                  refine CW.region ?_
                  refine WL.step rfl (Stp.res rfl rfl (Res.move rfl rfl) ?_)
                  refine WL.step rfl (Stp.res rfl rfl (Res.neq rfl rfl rfl) ?_)
                  refine WL.nil (Thn_n ?_)
                  refine CW.condF (bF (by omega)) ?_
                  refine CW.skip (Thn_n ?_)
                  refine CW.seq ?_
                  refine CW.region ?_
                  refine WL.step rfl (Stp.res rfl rfl (Res.move rfl rfl) ?_)
                  refine WL.step rfl (Stp.res rfl rfl (Res.assign rfl rfl) ?_)
                  refine WL.step rfl (Stp.res rfl rfl (Res.assign rfl rfl) ?_)
                  refine WL.nil (Thn_n ?_)
                  refine CW.ret ?_
                  obtain ⟨M52, hS, hlegv53, hfrgv53, hgv53⟩ := howw51.give hS
                  have hG52 : Grow w0.heap.size M50 M52 := ⟨hlegv53, hfrgv53⟩
                  rw [tb_of hshape hpl, bytes1_5 (by omega), ← List.nil_append (Mac.sum _ _)]
                  exact fq_tmp2 rfl rfl rfl ⟨_, hS, ((((hG2.trans hG6).trans hG17).trans hG50).trans hG52).1, ((((hG2.trans hG6).trans hG17).trans hG50).trans hG52).2, _, _, rfl, hgv53⟩
              · refine CW.seq ?_
                refine CW.region ?_
                refine WL.step rfl (Stp.res rfl rfl (Res.eql rfl rfl rfl) ?_)
                refine WL.step rfl (Stp.res rfl rfl (Res.assign rfl rfl) ?_)
                refine WL.nil (Thn_n ?_)
                refine CW.ite rfl (fun hc54 => ?_) (fun hc54 => ?_)
                · have hsh := (shape6 (by omega)).1 hshape
                  have hb0 := bytes_at hf hpl (j := 0) (by omega)
                  have hS := hS.drew
                  have hK0 : On M17 w := hS.on
                  refine CW.held (fun w => On M17 w) mixed ?_
                  refine AL.take 0 rfl (by kernel_rfl) (by kernel_rfl) (by kernel_rfl) rfl rfl rfl hK0 (fun w hK => Res.move rfl rfl) ?_
                  obtain ⟨be56, oe56, dae56, dce56, eae56, hce56, hde56⟩ := Ls.get (j := 0) hgv18 (by omega)
                  have hne56 := hde56.len
                  refine AL.take 1 rfl (by kernel_rfl) (by kernel_rfl) (by kernel_rfl) rfl rfl rfl hK0 (fun w hK => Res.idxT1 (k := 0) rfl rfl eae56 rfl underlying94 sz30 (show (0 : Int).toNat = 0 from rfl) (by omega)) ?_
                  refine AL.take 2 rfl (by kernel_rfl) (by kernel_rfl) (by kernel_rfl) rfl rfl rfl hK0 (fun w hK => Res.load1 (v := .slice (dae56) ((acc.getD 0 []).length) (dce56)) rfl rfl underlying30 rfl (hK.st.cell hce56)) ?_
                  refine AL.take 3 rfl (by kernel_rfl) (by kernel_rfl) (by kernel_rfl) rfl rfl rfl hK0 (fun w hK => Res.fieldA rfl rfl underlying32 rfl (show SZ Tryz.prog _ 1 from sz9) (by decide)) ?_
                  refine AL.take 4 rfl (by kernel_rfl) (by kernel_rfl) (by kernel_rfl) rfl rfl rfl hK0 (fun w hK => Res.load1 (v := Go.E.str (t.name)) rfl rfl underlying9 rfl (hK.st.cell (PH.cell_of (hbb1_0_2.mono (hG6.trans hG17).1) rfl))) ?_
                  refine AL.one 5 rfl (by kernel_rfl) rfl (Stp.callG (args := [.slice (dae56) ((acc.getD 0 []).length) (dce56), Go.E.str (t.name), .int .i64 ((16 : Nat) : Int)]) rfl rfl rfl cal110 rfl rfl hS (qexpand_ok _ ((acc.getD 0 [])) (t.name) 16 _ _ hS.on hde56 (by first | omega | (simp; done) | (simp; omega)) (by first | omega | (simp; done) | (simp; omega)) (by decide)) ?_)
                  rintro _ w M58 hS hG58 ⟨sx57, rfl, hx57⟩
                  obtain ⟨ax57, cx57, rfl, -, -, -, -⟩ := id hx57
                  have hK0 : On M17 w := (hS.known hG58.1).on
                  refine ⟨hK0, ?_⟩
                  refine AL.take 6 rfl (by kernel_rfl) (by kernel_rfl) (by kernel_rfl) rfl rfl rfl hK0 (fun w hK => Res.move rfl rfl) ?_
                  refine AL.take 7 rfl (by kernel_rfl) (by kernel_rfl) (by kernel_rfl) rfl rfl rfl hK0 (fun w hK => Res.extract (l := [_, _]) rfl rfl rfl) ?_
                  refine AL.take 8 rfl (by kernel_rfl) (by kernel_rfl) (by kernel_rfl) rfl rfl rfl hK0 (fun w hK => Res.extract (l := [_, _]) rfl rfl rfl) ?_
                  refine AL.take 9 rfl (by kernel_rfl) (by kernel_rfl) (by kernel_rfl) rfl rfl rfl hK0 (fun w hK => Res.assign rfl rfl) ?_
                  refine AL.take 10 rfl (by kernel_rfl) (by kernel_rfl) (by kernel_rfl) rfl rfl rfl hK0 (fun w hK => Res.assign rfl rfl) ?_
                  refine AL.done (by kernel_rfl) (Blk_n (Thn_n ?_))
                  refine CW.seq ?_
                  refine CW.seq ?_
                  refine CW.region ?_
                  refine WL.step rfl (Stp.res rfl rfl (Res.move rfl rfl) ?_)
                  refine WL.step rfl (Stp.res rfl rfl (Res.neq rfl rfl rfl) ?_)
                  refine WL.nil (Thn_n ?_)
                  refine CW.condF (bF (by omega)) ?_
                  refine CW.skip (Thn_n ?_)
                  refine CW.seq ?_
                  refine CW.region ?_
                  refine WL.step rfl (Stp.res rfl rfl (Res.move rfl rfl) ?_)
                  refine WL.step rfl (Stp.res rfl rfl (Res.assign rfl rfl) ?_)
                  refine WL.step rfl (Stp.res rfl rfl (Res.assign rfl rfl) ?_)
                  refine WL.nil (Thn_n ?_)
                  refine CW.ret ?_
                  rw [tb_of hshape hpl, bytes1_6 (by omega)]
                  exact fq_tmp2 rfl rfl rfl ⟨_, (howw20.dropS hS), (((hG2.trans hG6).trans hG17).trans hG58).1, (((hG2.trans hG6).trans hG17).trans hG58).2, _, _, rfl, hx57⟩
                · refine CW.skip (Blk_n (Thn_n ?_))
                  refine CW.seq ?_
                  refine CW.seq ?_
                  refine CW.region ?_
                  refine WL.step rfl (Stp.res rfl rfl (Res.move rfl rfl) ?_)
                  refine WL.step rfl (Stp.res rfl rfl (Res.neq rfl rfl rfl) ?_)
                  refine WL.nil (Thn_n ?_)
                  refine CW.condF (bF (by omega)) ?_
                  refine CW.skip (Thn_n ?_)
                  refine CW.seq ?_
                  refine CW.region ?_
                  refine WL.step rfl (Stp.res rfl rfl (Res.move rfl rfl) ?_)
                  refine WL.step rfl (Stp.res rfl rfl (Res.assign rfl rfl) ?_)
                  refine WL.step rfl (Stp.res rfl rfl (Res.assign rfl rfl) ?_)
                  refine WL.nil (Thn_n ?_)
                  refine CW.ret ?_
                  exact absurd hshape (shape0 (by omega) (by omega) (by omega) (by omega) (by omega) (by omega))
theorem rbytes_ok (t : T) : RbytesC 67 t := indS (p := fun t => RbytesC 67 t) (fun t ih => rbytes_step t ih) t
end Go.Proofs.YtcmgimicdcchlaaGreatDoor
set_option linter.unusedSimpArgs false
set_option linter.unusedVariables false
set_option maxRecDepth 20000
namespace Go.Proofs.YtcmgimicdcchlaaGreatDoor
open Go.Proofs.Tryz
open Go Go.E Go.Trm
def SzR (t : T) : Option (List UInt8) → Value → Prop
  | some _, r => r = .tuple #[.int .i64 (size t : Int), .int .i64 0]
  | none, r => r = .tuple #[.int .i64 0, .int .i64 290]
theorem cal20 : Callable Tryz.prog 20 := ⟨Tryz.f20, func20, rfl, by kernel_rfl⟩
theorem cal21 : Callable Tryz.prog 21 := ⟨Tryz.f21, func21, rfl, by kernel_rfl⟩
theorem cal57 : Callable Tryz.prog 57 := ⟨Tryz.f57, func57, rfl, by kernel_rfl⟩
theorem cal60 : Callable Tryz.prog 60 := ⟨Tryz.f60, func60, rfl, by kernel_rfl⟩
theorem cal65 : Callable Tryz.prog 65 := ⟨Tryz.f65, func65, rfl, by kernel_rfl⟩
theorem Tbytes_ok (t : T) (da1 : Option Addr) (dc1 : Nat) (la1 : Option Addr) (lc1 : Nat) (w0 : World) (M : PH) (hM : On M w0) (hgl : GL M) (hge : GE M) (hd1 : Bs M (.slice da1 t.data.length dc1) t.data) (hs1 : Ts M (.slice la1 t.subs.length lc1) t.subs) (hf : Fine t) : Ok Tryz.prog 20 #[.agg (TV t da1 dc1 la1 lc1)] w0 M (fun M' r => RbR M' 290 (bytesR t) r) := by
  have hS := hM.st
  refine enterB (l := [.agg (TV (t) da1 dc1 la1 lc1)]) 23 func20 rfl ntmps20 rfl ?_
  refine CW.seq ?_
  refine CW.region ?_
  refine WL.step rfl (Stp.boxA (cs := TV (t) da1 dc1 la1 lc1) rfl rfl rfl rfl hS ?_)
  intro b1_0 w hbb1_0 hS hkp hnw
  obtain ⟨M2, hG2, hbb1_0_2, hS⟩ : ∃ Mx, Grow w0.heap.size M Mx ∧ Kb Mx b1_0 (.cells (TV (t) da1 dc1 la1 lc1) 35 (0, 0)) ∧ St w0 w Mx ([]) := by
    have hF := hS.freezeG (i := 0) rfl hbb1_0
    exact ⟨_, hF.2, PH.add_self _ _ _, hF.1⟩
  refine WL.step rfl (Stp.res rfl rfl (Res.assign rfl rfl) ?_)
  refine WL.step rfl (Stp.res rfl rfl (Res.assign rfl rfl) ?_)
  refine WL.nil (Thn_n ?_)
  refine CW.seq ?_
  refine CW.seq ?_
  refine CW.region ?_
  refine WL.step rfl (Stp.res rfl rfl (Res.loadAll (cs := TV (t) da1 dc1 la1 lc1) rfl rfl underlying35 rfl sz35 (hS.on _ _ hbb1_0_2)) ?_)
  refine WL.step rfl (Stp.callG (args := [.agg (TV (t) da1 dc1 la1 lc1)]) rfl rfl rfl cal65 rfl rfl hS (many_ok (t) _ _ _ _ _ _ hS.on (hd1.mono hG2.1) (hs1.mono hG2.1)) ?_)
  rintro _ w _ hS _ ⟨rfl, m3, rfl, hm3⟩
  refine WL.step rfl (Stp.res rfl rfl (Res.move rfl rfl) ?_)
  refine WL.step rfl (Stp.res rfl rfl (Res.extract (l := [_, _]) rfl rfl rfl) ?_)
  refine WL.step rfl (Stp.res rfl rfl (Res.extract (l := [_, _]) rfl rfl rfl) ?_)
  refine WL.step rfl (Stp.res rfl rfl (Res.assign rfl rfl) ?_)
  refine WL.step rfl (Stp.res rfl rfl (Res.assign rfl rfl) ?_)
  refine WL.nil (Thn_n ?_)
  refine CW.seq ?_
  refine CW.region ?_
  refine WL.step rfl (Stp.res rfl rfl (Res.move rfl rfl) ?_)
  refine WL.step rfl (Stp.res rfl rfl (Res.notP rfl rfl rfl) ?_)
  refine WL.nil (Thn_n ?_)
  refine CW.ite rfl (fun hc4 => ?_) (fun hc4 => ?_)
  · refine CW.seq ?_
    refine CW.region ?_
    refine WL.step rfl (Stp.res rfl rfl (Res.assign rfl rfl) ?_)
    refine WL.step rfl (Stp.res rfl rfl (Res.assign rfl rfl) ?_)
    refine WL.nil (Thn_n ?_)
    refine CW.ret (Thn_r ?_)
    rw [bytesR, if_neg hc4]
    exact fq_tmp2 rfl rfl rfl ⟨_, hS, hG2.1, hG2.2, rfl⟩
  · refine CW.skip (Thn_n ?_)
    refine CW.seq ?_
    rcases htb : tbytes t with _ | b
    · refine CW.region ?_
      refine WL.step rfl (Stp.res rfl rfl (Res.loadAll (cs := TV (t) da1 dc1 la1 lc1) rfl rfl underlying35 rfl sz35 (hS.on _ _ hbb1_0_2)) ?_)
      refine WL.step rfl (Stp.callG (args := [.agg (TV (t) da1 dc1 la1 lc1)]) rfl rfl rfl cal66 rfl rfl hS ((by have h := tbytes_ok t _ _ _ _ _ _ hS.on (hgl.mono hG2.1) (hd1.mono hG2.1) (hs1.mono hG2.1) hf; rw [htb] at h; exact h)) ?_)
      rintro _ w M6 hS hG6 ⟨ey5, ky5, rfl, hy5⟩
      refine WL.step rfl (Stp.res rfl rfl (Res.move rfl rfl) ?_)
      refine WL.step rfl (Stp.res rfl rfl (Res.extract (l := [_, _]) rfl rfl rfl) ?_)
      refine WL.step rfl (Stp.res rfl rfl (Res.extract (l := [_, _]) rfl rfl rfl) ?_)
      refine WL.step rfl (Stp.res rfl rfl (Res.assign rfl rfl) ?_)
      refine WL.step rfl (Stp.res rfl rfl (Res.assign rfl rfl) ?_)
      refine WL.nil (Thn_n ?_)
      refine CW.seq ?_
      refine CW.region ?_
      refine WL.step rfl (Stp.res rfl rfl (Res.move rfl rfl) ?_)
      refine WL.step rfl (Stp.res rfl rfl (Res.move rfl rfl) ?_)
      refine WL.step rfl (Stp.callG (args := [.iface 128 (.pointer (some ⟨ey5, 0, none⟩))]) rfl rfl rfl cal57 rfl rfl hS (number_badT _ _ _ _ _ hS.on (hge.mono (hG2.trans hG6).1) hy5) ?_)
      rintro _ w _ hS _ ⟨rfl, rfl⟩
      refine WL.step rfl (Stp.res rfl rfl (Res.assign rfl rfl) ?_)
      refine WL.step rfl (Stp.res rfl rfl (Res.assign rfl rfl) ?_)
      refine WL.nil (Thn_n ?_)
      refine CW.ret ?_
      rw [bytesR, if_pos (Decidable.not_not.1 hc4), htb]
      exact fq_tmp2 rfl rfl rfl ⟨_, hS, (hG2.trans hG6).1, (hG2.trans hG6).2, rfl⟩
    · refine CW.region ?_
      refine WL.step rfl (Stp.res rfl rfl (Res.loadAll (cs := TV (t) da1 dc1 la1 lc1) rfl rfl underlying35 rfl sz35 (hS.on _ _ hbb1_0_2)) ?_)
      refine WL.step rfl (Stp.callG (args := [.agg (TV (t) da1 dc1 la1 lc1)]) rfl rfl rfl cal66 rfl rfl hS ((by have h := tbytes_ok t _ _ _ _ _ _ hS.on (hgl.mono hG2.1) (hd1.mono hG2.1) (hs1.mono hG2.1) hf; rw [htb] at h; exact h)) ?_)
      rintro _ w M8 hS hG8 ⟨ay7, cy7, rfl, hy7⟩
      refine WL.step rfl (Stp.res rfl rfl (Res.move rfl rfl) ?_)
      refine WL.step rfl (Stp.res rfl rfl (Res.extract (l := [_, _]) rfl rfl rfl) ?_)
      refine WL.step rfl (Stp.res rfl rfl (Res.extract (l := [_, _]) rfl rfl rfl) ?_)
      refine WL.step rfl (Stp.res rfl rfl (Res.assign rfl rfl) ?_)
      refine WL.step rfl (Stp.res rfl rfl (Res.assign rfl rfl) ?_)
      refine WL.nil (Thn_n ?_)
      refine CW.seq ?_
      refine CW.region ?_
      refine WL.step rfl (Stp.res rfl rfl (Res.move rfl rfl) ?_)
      refine WL.step rfl (Stp.res rfl rfl (Res.move rfl rfl) ?_)
      refine WL.step rfl (Stp.callG (args := [.nilIface]) rfl rfl rfl cal57 rfl rfl hS (number_nilT _ _ hS.on) ?_)
      rintro _ w _ hS _ ⟨rfl, rfl⟩
      refine WL.step rfl (Stp.res rfl rfl (Res.assign rfl rfl) ?_)
      refine WL.step rfl (Stp.res rfl rfl (Res.assign rfl rfl) ?_)
      refine WL.nil (Thn_n ?_)
      refine CW.ret ?_
      rw [bytesR, if_pos (Decidable.not_not.1 hc4), htb]
      exact fq_tmp2 rfl rfl rfl ⟨_, hS, (hG2.trans hG8).1, (hG2.trans hG8).2, _, _, rfl, hy7⟩
theorem Rbytes_ok (t : T) (da1 : Option Addr) (dc1 : Nat) (la1 : Option Addr) (lc1 : Nat) (w0 : World) (M : PH) (hM : On M w0) (hd1 : Bs M (.slice da1 t.data.length dc1) t.data) (hs1 : Ts M (.slice la1 t.subs.length lc1) t.subs) (hf : Fine t) : Ok Tryz.prog 21 #[.agg (TV t da1 dc1 la1 lc1)] w0 M (fun M' r => RbR M' 290 (bytesR t) r) := by
  have hS := hM.st
  refine enterB (l := [.agg (TV (t) da1 dc1 la1 lc1)]) 11 func21 rfl ntmps21 rfl ?_
  refine CW.seq ?_
  refine CW.region ?_
  refine WL.step rfl (Stp.boxA (cs := TV (t) da1 dc1 la1 lc1) rfl rfl rfl rfl hS ?_)
  intro b1_0 w hbb1_0 hS hkp hnw
  obtain ⟨M2, hG2, hbb1_0_2, hS⟩ : ∃ Mx, Grow w0.heap.size M Mx ∧ Kb Mx b1_0 (.cells (TV (t) da1 dc1 la1 lc1) 32 (0, 0)) ∧ St w0 w Mx ([]) := by
    have hF := hS.freezeG (i := 0) rfl hbb1_0
    exact ⟨_, hF.2, PH.add_self _ _ _, hF.1⟩
  refine WL.step rfl (Stp.res rfl rfl (Res.assign rfl rfl) ?_)
  refine WL.step rfl (Stp.res rfl rfl (Res.assign rfl rfl) ?_)
  refine WL.nil (Thn_n ?_)
  refine CW.seq ?_
  refine CW.seq ?_
  refine CW.region ?_
  refine WL.step rfl (Stp.res rfl rfl (Res.loadAll (cs := TV (t) da1 dc1 la1 lc1) rfl rfl underlying32 rfl sz32 (hS.on _ _ hbb1_0_2)) ?_)
  refine WL.step rfl (Stp.callG (args := [.agg (TV (t) da1 dc1 la1 lc1)]) rfl rfl rfl cal60 rfl rfl hS (small_ok (t) _ _ _ _ _ _ hS.on (hd1.mono hG2.1) (hs1.mono hG2.1)) ?_)
  rintro _ w _ hS _ ⟨rfl, rfl⟩
  refine WL.step rfl (Stp.res rfl rfl (Res.notP rfl rfl rfl) ?_)
  refine WL.nil (Thn_n ?_)
  refine CW.ite rfl (fun hc3 => ?_) (fun hc3 => ?_)
  · refine CW.seq ?_
    refine CW.region ?_
    refine WL.step rfl (Stp.res rfl rfl (Res.assign rfl rfl) ?_)
    refine WL.step rfl (Stp.res rfl rfl (Res.assign rfl rfl) ?_)
    refine WL.nil (Thn_n ?_)
    refine CW.ret (Thn_r ?_)
    rw [bytesR, if_neg hc3]
    exact fq_tmp2 rfl rfl rfl ⟨_, hS, hG2.1, hG2.2, rfl⟩
  · refine CW.skip (Thn_n ?_)
    refine CW.seq ?_
    rcases htb : tbytes t with _ | b
    · refine CW.region ?_
      refine WL.step rfl (Stp.res rfl rfl (Res.loadAll (cs := TV (t) da1 dc1 la1 lc1) rfl rfl underlying32 rfl sz32 (hS.on _ _ hbb1_0_2)) ?_)
      refine WL.step rfl (Stp.callG (args := [.agg (TV (t) da1 dc1 la1 lc1)]) rfl rfl rfl cal67 rfl rfl hS ((by have h := rbytes_ok t _ _ _ _ _ _ hS.on (hd1.mono hG2.1) (hs1.mono hG2.1) hf; rw [htb] at h; exact h)) ?_)
      rintro _ w M5 hS hG5 rfl
      refine WL.step rfl (Stp.res rfl rfl (Res.extract (l := [_, _]) rfl rfl rfl) ?_)
      refine WL.step rfl (Stp.res rfl rfl (Res.extract (l := [_, _]) rfl rfl rfl) ?_)
      refine WL.step rfl (Stp.res rfl rfl (Res.assign rfl rfl) ?_)
      refine WL.step rfl (Stp.res rfl rfl (Res.assign rfl rfl) ?_)
      refine WL.nil (Thn_n ?_)
      refine CW.ret ?_
      rw [bytesR, if_pos (Decidable.not_not.1 hc3), htb]
      exact fq_tmp2 rfl rfl rfl ⟨_, hS, (hG2.trans hG5).1, (hG2.trans hG5).2, rfl⟩
    · refine CW.region ?_
      refine WL.step rfl (Stp.res rfl rfl (Res.loadAll (cs := TV (t) da1 dc1 la1 lc1) rfl rfl underlying32 rfl sz32 (hS.on _ _ hbb1_0_2)) ?_)
      refine WL.step rfl (Stp.callG (args := [.agg (TV (t) da1 dc1 la1 lc1)]) rfl rfl rfl cal67 rfl rfl hS ((by have h := rbytes_ok t _ _ _ _ _ _ hS.on (hd1.mono hG2.1) (hs1.mono hG2.1) hf; rw [htb] at h; exact h)) ?_)
      rintro _ w M7 hS hG7 ⟨ay6, cy6, rfl, hy6⟩
      refine WL.step rfl (Stp.res rfl rfl (Res.extract (l := [_, _]) rfl rfl rfl) ?_)
      refine WL.step rfl (Stp.res rfl rfl (Res.extract (l := [_, _]) rfl rfl rfl) ?_)
      refine WL.step rfl (Stp.res rfl rfl (Res.assign rfl rfl) ?_)
      refine WL.step rfl (Stp.res rfl rfl (Res.assign rfl rfl) ?_)
      refine WL.nil (Thn_n ?_)
      refine CW.ret ?_
      rw [bytesR, if_pos (Decidable.not_not.1 hc3), htb]
      exact fq_tmp2 rfl rfl rfl ⟨_, hS, (hG2.trans hG7).1, (hG2.trans hG7).2, _, _, rfl, hy6⟩
theorem Tsize_ok (t : T) (da1 : Option Addr) (dc1 : Nat) (la1 : Option Addr) (lc1 : Nat) (w0 : World) (M : PH) (hM : On M w0) (hgl : GL M) (hge : GE M) (hd1 : Bs M (.slice da1 t.data.length dc1) t.data) (hs1 : Ts M (.slice la1 t.subs.length lc1) t.subs) (hf : Fine t) : Ok Tryz.prog 22 #[.agg (TV t da1 dc1 la1 lc1)] w0 M (fun M' r => M = M' ∧ SzR t (bytesR t) r) := by
  have hS := hM.st
  refine enterB (l := [.agg (TV (t) da1 dc1 la1 lc1)]) 22 func22 rfl ntmps22 rfl ?_
  refine CW.seq ?_
  refine CW.region ?_
  refine WL.step rfl (Stp.boxA (cs := TV (t) da1 dc1 la1 lc1) rfl rfl rfl rfl hS ?_)
  intro b1_0 w hbb1_0 hS hkp hnw
  obtain ⟨M2, hG2, hbb1_0_2, hS⟩ : ∃ Mx, Grow w0.heap.size M Mx ∧ Kb Mx b1_0 (.cells (TV (t) da1 dc1 la1 lc1) 35 (0, 0)) ∧ St w0 w Mx ([]) := by
    have hF := hS.freezeG (i := 0) rfl hbb1_0
    exact ⟨_, hF.2, PH.add_self _ _ _, hF.1⟩
  refine WL.step rfl (Stp.res rfl rfl (Res.assign rfl rfl) ?_)
  refine WL.step rfl (Stp.res rfl rfl (Res.assign rfl rfl) ?_)
  refine WL.nil (Thn_n ?_)
  refine CW.seq ?_
  refine CW.seq ?_
  rcases hbr : bytesR t with _ | b
  · refine CW.region ?_
    refine WL.step rfl (Stp.res rfl rfl (Res.loadAll (cs := TV (t) da1 dc1 la1 lc1) rfl rfl underlying35 rfl sz35 (hS.on _ _ hbb1_0_2)) ?_)
    refine WL.step rfl (Stp.callG (args := [.agg (TV (t) da1 dc1 la1 lc1)]) rfl rfl rfl cal20 rfl rfl hS ((by have h := Tbytes_ok t _ _ _ _ _ _ hS.on (hgl.mono hG2.1) (hge.mono hG2.1) (hd1.mono hG2.1) (hs1.mono hG2.1) hf; rw [hbr] at h; exact h)) ?_)
    rintro _ w M4 hS hG4 rfl
    refine WL.step rfl (Stp.res rfl rfl (Res.move rfl rfl) ?_)
    refine WL.step rfl (Stp.res rfl rfl (Res.extract (l := [_, _]) rfl rfl rfl) ?_)
    refine WL.step rfl (Stp.res rfl rfl (Res.extract (l := [_, _]) rfl rfl rfl) ?_)
    refine WL.step rfl (Stp.res rfl rfl (Res.assign rfl rfl) ?_)
    refine WL.step rfl (Stp.res rfl rfl (Res.assign rfl rfl) ?_)
    refine WL.nil (Thn_n ?_)
    refine CW.seq ?_
    refine CW.region ?_
    refine WL.step rfl (Stp.res rfl rfl (Res.move rfl rfl) ?_)
    refine WL.step rfl (Stp.res rfl rfl (Res.neq rfl rfl rfl) ?_)
    refine WL.nil (Thn_n ?_)
    refine CW.condT (bT (by omega)) ?_
    refine CW.seq ?_
    refine CW.region ?_
    refine WL.step rfl (Stp.res rfl rfl (Res.move rfl rfl) ?_)
    refine WL.step rfl (Stp.res rfl rfl (Res.assign rfl rfl) ?_)
    refine WL.step rfl (Stp.res rfl rfl (Res.assign rfl rfl) ?_)
    refine WL.nil (Thn_n ?_)
    refine CW.ret (Thn_r ?_)
    exact fq_tmp2 rfl rfl rfl ⟨M, (hS.known (hG2.trans hG4).1), PH.le.refl _, Fresh.refl _ _, rfl, rfl⟩
  · refine CW.region ?_
    refine WL.step rfl (Stp.res rfl rfl (Res.loadAll (cs := TV (t) da1 dc1 la1 lc1) rfl rfl underlying35 rfl sz35 (hS.on _ _ hbb1_0_2)) ?_)
    refine WL.step rfl (Stp.callG (args := [.agg (TV (t) da1 dc1 la1 lc1)]) rfl rfl rfl cal20 rfl rfl hS ((by have h := Tbytes_ok t _ _ _ _ _ _ hS.on (hgl.mono hG2.1) (hge.mono hG2.1) (hd1.mono hG2.1) (hs1.mono hG2.1) hf; rw [hbr] at h; exact h)) ?_)
    rintro _ w M6 hS hG6 ⟨ay5, cy5, rfl, hy5⟩
    refine WL.step rfl (Stp.res rfl rfl (Res.move rfl rfl) ?_)
    refine WL.step rfl (Stp.res rfl rfl (Res.extract (l := [_, _]) rfl rfl rfl) ?_)
    refine WL.step rfl (Stp.res rfl rfl (Res.extract (l := [_, _]) rfl rfl rfl) ?_)
    refine WL.step rfl (Stp.res rfl rfl (Res.assign rfl rfl) ?_)
    refine WL.step rfl (Stp.res rfl rfl (Res.assign rfl rfl) ?_)
    refine WL.nil (Thn_n ?_)
    refine CW.seq ?_
    refine CW.region ?_
    refine WL.step rfl (Stp.res rfl rfl (Res.move rfl rfl) ?_)
    refine WL.step rfl (Stp.res rfl rfl (Res.neq rfl rfl rfl) ?_)
    refine WL.nil (Thn_n ?_)
    refine CW.condF (bF (by omega)) ?_
    refine CW.skip (Thn_n ?_)
    refine CW.seq ?_
    refine CW.region ?_
    refine WL.step rfl (Stp.res rfl rfl (Res.loadAll (cs := TV (t) da1 dc1 la1 lc1) rfl rfl underlying35 rfl sz35 (hS.on _ _ (hbb1_0_2.mono hG6.1))) ?_)
    refine WL.step rfl (Stp.callG (args := [.agg (TV (t) da1 dc1 la1 lc1)]) rfl rfl rfl cal65 rfl rfl hS (many_ok (t) _ _ _ _ _ _ hS.on (hd1.mono (hG2.trans hG6).1) (hs1.mono (hG2.trans hG6).1)) ?_)
    rintro _ w _ hS _ ⟨rfl, m7, rfl, hm7⟩
    refine WL.step rfl (Stp.res rfl rfl (Res.move rfl rfl) ?_)
    refine WL.step rfl (Stp.res rfl rfl (Res.extract (l := [_, _]) rfl rfl rfl) ?_)
    refine WL.step rfl (Stp.res rfl rfl (Res.extract (l := [_, _]) rfl rfl rfl) ?_)
    refine WL.step rfl (Stp.res rfl rfl (Res.assign rfl rfl) ?_)
    refine WL.step rfl (Stp.res rfl rfl (Res.assign rfl rfl) ?_)
    refine WL.nil (Thn_n ?_)
    refine CW.seq ?_
    refine CW.region ?_
    refine WL.step rfl (Stp.res rfl rfl (Res.move rfl rfl) ?_)
    refine WL.step rfl (Stp.res rfl rfl (Res.assign rfl rfl) ?_)
    refine WL.step rfl (Stp.res rfl rfl (Res.assign rfl rfl) ?_)
    refine WL.nil (Thn_n ?_)
    refine CW.ret ?_
    have hsz9 := hm7 (small_good hbr)
    rw [hsz9]
    exact fq_tmp2 rfl rfl rfl ⟨M, (hS.known (hG2.trans hG6).1), PH.le.refl _, Fresh.refl _ _, rfl, rfl⟩
theorem Rsize_ok (t : T) (da1 : Option Addr) (dc1 : Nat) (la1 : Option Addr) (lc1 : Nat) (w0 : World) (M : PH) (hM : On M w0)  (hd1 : Bs M (.slice da1 t.data.length dc1) t.data) (hs1 : Ts M (.slice la1 t.subs.length lc1) t.subs) (hf : Fine t) : Ok Tryz.prog 23 #[.agg (TV t da1 dc1 la1 lc1)] w0 M (fun M' r => M = M' ∧ SzR t (bytesR t) r) := by
  have hS := hM.st
  refine enterB (l := [.agg (TV (t) da1 dc1 la1 lc1)]) 22 func23 rfl ntmps23 rfl ?_
  refine CW.seq ?_
  refine CW.region ?_
  refine WL.step rfl (Stp.boxA (cs := TV (t) da1 dc1 la1 lc1) rfl rfl rfl rfl hS ?_)
  intro b1_0 w hbb1_0 hS hkp hnw
  obtain ⟨M2, hG2, hbb1_0_2, hS⟩ : ∃ Mx, Grow w0.heap.size M Mx ∧ Kb Mx b1_0 (.cells (TV (t) da1 dc1 la1 lc1) 32 (0, 0)) ∧ St w0 w Mx ([]) := by
    have hF := hS.freezeG (i := 0) rfl hbb1_0
    exact ⟨_, hF.2, PH.add_self _ _ _, hF.1⟩
  refine WL.step rfl (Stp.res rfl rfl (Res.assign rfl rfl) ?_)
  refine WL.step rfl (Stp.res rfl rfl (Res.assign rfl rfl) ?_)
  refine WL.nil (Thn_n ?_)
  refine CW.seq ?_
  refine CW.seq ?_
  rcases hbr : bytesR t with _ | b
  · refine CW.region ?_
    refine WL.step rfl (Stp.res rfl rfl (Res.loadAll (cs := TV (t) da1 dc1 la1 lc1) rfl rfl underlying32 rfl sz32 (hS.on _ _ hbb1_0_2)) ?_)
    refine WL.step rfl (Stp.callG (args := [.agg (TV (t) da1 dc1 la1 lc1)]) rfl rfl rfl cal21 rfl rfl hS ((by have h := Rbytes_ok t _ _ _ _ _ _ hS.on (hd1.mono hG2.1) (hs1.mono hG2.1) hf; rw [hbr] at h; exact h)) ?_)
    rintro _ w M4 hS hG4 rfl
    refine WL.step rfl (Stp.res rfl rfl (Res.move rfl rfl) ?_)
    refine WL.step rfl (Stp.res rfl rfl (Res.extract (l := [_, _]) rfl rfl rfl) ?_)
    refine WL.step rfl (Stp.res rfl rfl (Res.extract (l := [_, _]) rfl rfl rfl) ?_)
    refine WL.step rfl (Stp.res rfl rfl (Res.assign rfl rfl) ?_)
    refine WL.step rfl (Stp.res rfl rfl (Res.assign rfl rfl) ?_)
    refine WL.nil (Thn_n ?_)
    refine CW.seq ?_
    refine CW.region ?_
    refine WL.step rfl (Stp.res rfl rfl (Res.move rfl rfl) ?_)
    refine WL.step rfl (Stp.res rfl rfl (Res.neq rfl rfl rfl) ?_)
    refine WL.nil (Thn_n ?_)
    refine CW.condT (bT (by omega)) ?_
    refine CW.seq ?_
    refine CW.region ?_
    refine WL.step rfl (Stp.res rfl rfl (Res.move rfl rfl) ?_)
    refine WL.step rfl (Stp.res rfl rfl (Res.assign rfl rfl) ?_)
    refine WL.step rfl (Stp.res rfl rfl (Res.assign rfl rfl) ?_)
    refine WL.nil (Thn_n ?_)
    refine CW.ret (Thn_r ?_)
    exact fq_tmp2 rfl rfl rfl ⟨M, (hS.known (hG2.trans hG4).1), PH.le.refl _, Fresh.refl _ _, rfl, rfl⟩
  · refine CW.region ?_
    refine WL.step rfl (Stp.res rfl rfl (Res.loadAll (cs := TV (t) da1 dc1 la1 lc1) rfl rfl underlying32 rfl sz32 (hS.on _ _ hbb1_0_2)) ?_)
    refine WL.step rfl (Stp.callG (args := [.agg (TV (t) da1 dc1 la1 lc1)]) rfl rfl rfl cal21 rfl rfl hS ((by have h := Rbytes_ok t _ _ _ _ _ _ hS.on (hd1.mono hG2.1) (hs1.mono hG2.1) hf; rw [hbr] at h; exact h)) ?_)
    rintro _ w M6 hS hG6 ⟨ay5, cy5, rfl, hy5⟩
    refine WL.step rfl (Stp.res rfl rfl (Res.move rfl rfl) ?_)
    refine WL.step rfl (Stp.res rfl rfl (Res.extract (l := [_, _]) rfl rfl rfl) ?_)
    refine WL.step rfl (Stp.res rfl rfl (Res.extract (l := [_, _]) rfl rfl rfl) ?_)
    refine WL.step rfl (Stp.res rfl rfl (Res.assign rfl rfl) ?_)
    refine WL.step rfl (Stp.res rfl rfl (Res.assign rfl rfl) ?_)
    refine WL.nil (Thn_n ?_)
    refine CW.seq ?_
    refine CW.region ?_
    refine WL.step rfl (Stp.res rfl rfl (Res.move rfl rfl) ?_)
    refine WL.step rfl (Stp.res rfl rfl (Res.neq rfl rfl rfl) ?_)
    refine WL.nil (Thn_n ?_)
    refine CW.condF (bF (by omega)) ?_
    refine CW.skip (Thn_n ?_)
    refine CW.seq ?_
    refine CW.region ?_
    refine WL.step rfl (Stp.res rfl rfl (Res.loadAll (cs := TV (t) da1 dc1 la1 lc1) rfl rfl underlying32 rfl sz32 (hS.on _ _ (hbb1_0_2.mono hG6.1))) ?_)
    refine WL.step rfl (Stp.callG (args := [.agg (TV (t) da1 dc1 la1 lc1), .int .i64 ((8 : Nat) : Int)]) rfl rfl rfl cal68 rfl rfl hS (deep_ok t _ _ _ _ (8) _ _ hS.on (by omega) (hd1.mono (hG2.trans hG6).1) (hs1.mono (hG2.trans hG6).1)) ?_)
    rintro _ w _ hS _ ⟨rfl, ad7, bd7, rfl, hd7⟩
    have hr := hd7
    obtain ⟨va, hva⟩ : ∃ z, z = ad7 := ⟨_, rfl⟩
    obtain ⟨vb, hvb⟩ : ∃ z, z = bd7 := ⟨_, rfl⟩
    rw [← hva, ← hvb] at hr
    have hr9 := deep_le hr
    refine WL.step rfl (Stp.res rfl rfl (Res.move rfl rfl) ?_)
    refine WL.step rfl (Stp.res rfl rfl (Res.extract (l := [_, _]) rfl rfl rfl) ?_)
    refine WL.step rfl (Stp.res rfl rfl (Res.extract (l := [_, _]) rfl rfl rfl) ?_)
    refine WL.step rfl (Stp.res rfl rfl (Res.assign rfl rfl) ?_)
    refine WL.step rfl (Stp.res rfl rfl (Res.assign rfl rfl) ?_)
    refine WL.nil (Thn_n ?_)
    refine CW.seq ?_
    refine CW.region ?_
    refine WL.step rfl (Stp.res rfl rfl (Res.move rfl rfl) ?_)
    refine WL.step rfl (Stp.res rfl rfl (Res.assign rfl rfl) ?_)
    refine WL.step rfl (Stp.res rfl rfl (Res.assign rfl rfl) ?_)
    refine WL.nil (Thn_n ?_)
    refine CW.ret ?_
    have hsm9 := small_good hbr
    obtain ⟨hok9, ha9, hb9⟩ : DeepOk 8 t ∧ va = depth t ∧ vb = size t := by
      rcases hr with h9 | ⟨h9, _⟩
      · exact h9
      · exact absurd ⟨by have := hsm9.1; omega, hsm9.2⟩ h9
    rw [hvb] at hb9
    rw [hb9]
    exact fq_tmp2 rfl rfl rfl ⟨M, (hS.known (hG2.trans hG6).1), PH.le.refl _, Fresh.refl _ _, rfl, rfl⟩
theorem Tsame_ok (t u : T) (da1 : Option Addr) (dc1 : Nat) (la1 : Option Addr) (lc1 : Nat) (da2 : Option Addr) (dc2 : Nat) (la2 : Option Addr) (lc2 : Nat) (w0 : World) (M : PH) (hM : On M w0) (hd1 : Bs M (.slice da1 t.data.length dc1) t.data) (hs1 : Ts M (.slice la1 t.subs.length lc1) t.subs) (hd2 : Bs M (.slice da2 u.data.length dc2) u.data) (hs2 : Ts M (.slice la2 u.subs.length lc2) u.subs) : Ok Tryz.prog 25 #[.agg (TV t da1 dc1 la1 lc1), .agg (TV u da2 dc2 la2 lc2)] w0 M (fun M' r => M = M' ∧ r = .bool (decide (Small t ∧ Small u ∧ t = u))) := by
  have hS := hM.st
  refine enterB (l := [.agg (TV (t) da1 dc1 la1 lc1), .agg (TV (u) da2 dc2 la2 lc2)]) 28 func25 rfl ntmps25 rfl ?_
  refine CW.seq ?_
  refine CW.region ?_
  refine WL.step rfl (Stp.boxA (cs := TV (t) da1 dc1 la1 lc1) rfl rfl rfl rfl hS ?_)
  intro b2_0 w hbb2_0 hS hkp hnw
  obtain ⟨M2, hG2, hbb2_0_2, hS⟩ : ∃ Mx, Grow w0.heap.size M Mx ∧ Kb Mx b2_0 (.cells (TV (t) da1 dc1 la1 lc1) 35 (0, 0)) ∧ St w0 w Mx ([]) := by
    have hF := hS.freezeG (i := 0) rfl hbb2_0
    exact ⟨_, hF.2, PH.add_self _ _ _, hF.1⟩
  refine WL.step rfl (Stp.boxA (cs := TV (u) da2 dc2 la2 lc2) rfl rfl rfl rfl hS ?_)
  intro b3_2 w hbb3_2 hS hkp hnw
  obtain ⟨M4, hG4, hbb3_2_4, hS⟩ : ∃ Mx, Grow w0.heap.size M2 Mx ∧ Kb Mx b3_2 (.cells (TV (u) da2 dc2 la2 lc2) 35 (0, 0)) ∧ St w0 w Mx ([]) := by
    have hF := hS.freezeG (i := 0) rfl hbb3_2
    exact ⟨_, hF.2, PH.add_self _ _ _, hF.1⟩
  refine WL.step rfl (Stp.res rfl rfl (Res.assign rfl rfl) ?_)
  refine WL.nil (Thn_n ?_)
  refine CW.seq ?_
  refine CW.region ?_
  refine WL.step rfl (Stp.res rfl rfl (Res.loadAll (cs := TV (t) da1 dc1 la1 lc1) rfl rfl underlying35 rfl sz35 (hS.on _ _ (hbb2_0_2.mono hG4.1))) ?_)
  refine WL.step rfl (Stp.callG (args := [.agg (TV (t) da1 dc1 la1 lc1)]) rfl rfl rfl cal65 rfl rfl hS (many_ok (t) _ _ _ _ _ _ hS.on (hd1.mono (hG2.trans hG4).1) (hs1.mono (hG2.trans hG4).1)) ?_)
  rintro _ w _ hS _ ⟨rfl, m5, rfl, hm5⟩
  refine WL.step rfl (Stp.res rfl rfl (Res.move rfl rfl) ?_)
  refine WL.step rfl (Stp.res rfl rfl (Res.extract (l := [_, _]) rfl rfl rfl) ?_)
  refine WL.step rfl (Stp.res rfl rfl (Res.extract (l := [_, _]) rfl rfl rfl) ?_)
  refine WL.step rfl (Stp.res rfl rfl (Res.assign rfl rfl) ?_)
  refine WL.step rfl (Stp.res rfl rfl (Res.assign rfl rfl) ?_)
  refine WL.nil (Thn_n ?_)
  refine CW.seq ?_
  refine CW.region ?_
  refine WL.step rfl (Stp.res rfl rfl (Res.loadAll (cs := TV (u) da2 dc2 la2 lc2) rfl rfl underlying35 rfl sz35 (hS.on _ _ hbb3_2_4)) ?_)
  refine WL.step rfl (Stp.callG (args := [.agg (TV (u) da2 dc2 la2 lc2)]) rfl rfl rfl cal65 rfl rfl hS (many_ok (u) _ _ _ _ _ _ hS.on (hd2.mono (hG2.trans hG4).1) (hs2.mono (hG2.trans hG4).1)) ?_)
  rintro _ w _ hS _ ⟨rfl, m6, rfl, hm6⟩
  refine WL.step rfl (Stp.res rfl rfl (Res.move rfl rfl) ?_)
  refine WL.step rfl (Stp.res rfl rfl (Res.extract (l := [_, _]) rfl rfl rfl) ?_)
  refine WL.step rfl (Stp.res rfl rfl (Res.extract (l := [_, _]) rfl rfl rfl) ?_)
  refine WL.step rfl (Stp.res rfl rfl (Res.assign rfl rfl) ?_)
  refine WL.step rfl (Stp.res rfl rfl (Res.assign rfl rfl) ?_)
  refine WL.nil (Thn_n ?_)
  refine CW.seq ?_
  refine CW.region ?_
  refine WL.step rfl (Stp.res rfl rfl (Res.move rfl rfl) ?_)
  refine WL.step rfl (Stp.res rfl rfl (Res.move rfl rfl) ?_)
  by_cases hg7 : Small t
  · refine WL.stepG 1 true rfl rfl rfl (bT hg7) (Stp.res rfl rfl (Res.move rfl rfl) ?_)
    refine WL.step rfl (Stp.res rfl rfl (Res.pickT rfl (bT hg7) rfl) ?_)
    refine WL.step rfl (Stp.res rfl rfl (Res.move rfl rfl) ?_)
    by_cases hg8 : Small u
    · refine WL.stepG 4 true rfl rfl rfl (bT hg8) (Stp.res rfl rfl (Res.loadAll (cs := TV (t) da1 dc1 la1 lc1) rfl rfl underlying35 rfl sz35 (hS.on _ _ (hbb2_0_2.mono hG4.1))) ?_)
      refine WL.stepG 4 true rfl rfl rfl (bT hg8) (Stp.res rfl rfl (Res.loadAll (cs := TV (u) da2 dc2 la2 lc2) rfl rfl underlying35 rfl sz35 (hS.on _ _ hbb3_2_4)) ?_)
      refine WL.stepG 4 true rfl rfl rfl (bT hg8) (Stp.callG (args := [.agg (TV (t) da1 dc1 la1 lc1), .agg (TV (u) da2 dc2 la2 lc2)]) rfl rfl rfl cal69 rfl rfl hS (tsame_ok (t) (u) _ _ _ _ _ _ _ _ _ _ hS.on (hd1.mono (hG2.trans hG4).1) (hs1.mono (hG2.trans hG4).1) (hd2.mono (hG2.trans hG4).1) (hs2.mono (hG2.trans hG4).1)) ?_)
      rintro _ w _ hS _ ⟨rfl, rfl⟩
      refine WL.step rfl (Stp.res rfl rfl (Res.pickT rfl (bT hg8) rfl) ?_)
      refine WL.step rfl (Stp.res rfl rfl (Res.assign rfl rfl) ?_)
      refine WL.nil (Thn_n ?_)
      refine CW.ret ?_
      exact fq_tmp rfl rfl ⟨M, (hS.known (hG2.trans hG4).1), PH.le.refl _, Fresh.refl _ _, rfl, (congrArg Value.bool (decide_eq_decide.2 ⟨fun h => ⟨by assumption, by assumption, h⟩, fun h => h.2.2⟩))⟩
    · refine WL.skipG 4 true rfl rfl rfl (bF hg8) rfl rfl ?_
      refine WL.skipG 4 true rfl rfl rfl (bF hg8) rfl rfl ?_
      refine WL.skipG 4 true rfl rfl rfl (bF hg8) rfl rfl ?_
      refine WL.step rfl (Stp.res rfl rfl (Res.pickF rfl (bF hg8) rfl) ?_)
      refine WL.step rfl (Stp.res rfl rfl (Res.assign rfl rfl) ?_)
      refine WL.nil (Thn_n ?_)
      refine CW.ret ?_
      exact fq_tmp rfl rfl ⟨M, (hS.known (hG2.trans hG4).1), PH.le.refl _, Fresh.refl _ _, rfl, (congrArg Value.bool ((decide_eq_false (fun h => by first | exact absurd h.1 (by assumption) | exact absurd h.2.1 (by assumption))).symm))⟩
  · refine WL.skipG 1 true rfl rfl rfl (bF hg7) rfl rfl ?_
    refine WL.step rfl (Stp.res rfl rfl (Res.pickF rfl (bF hg7) rfl) ?_)
    refine WL.step rfl (Stp.res rfl rfl (Res.move rfl rfl) ?_)
    refine WL.skipG 4 true rfl rfl rfl rfl rfl rfl ?_
    refine WL.skipG 4 true rfl rfl rfl rfl rfl rfl ?_
    refine WL.skipG 4 true rfl rfl rfl rfl rfl rfl ?_
    refine WL.step rfl (Stp.res rfl rfl (Res.pickF rfl rfl rfl) ?_)
    refine WL.step rfl (Stp.res rfl rfl (Res.assign rfl rfl) ?_)
    refine WL.nil (Thn_n ?_)
    refine CW.ret ?_
    exact fq_tmp rfl rfl ⟨M, (hS.known (hG2.trans hG4).1), PH.le.refl _, Fresh.refl _ _, rfl, (congrArg Value.bool ((decide_eq_false (fun h => by first | exact absurd h.1 (by assumption) | exact absurd h.2.1 (by assumption))).symm))⟩
theorem Rsame_ok (t u : T) (da1 : Option Addr) (dc1 : Nat) (la1 : Option Addr) (lc1 : Nat) (da2 : Option Addr) (dc2 : Nat) (la2 : Option Addr) (lc2 : Nat) (w0 : World) (M : PH) (hM : On M w0) (hd1 : Bs M (.slice da1 t.data.length dc1) t.data) (hs1 : Ts M (.slice la1 t.subs.length lc1) t.subs) (hd2 : Bs M (.slice da2 u.data.length dc2) u.data) (hs2 : Ts M (.slice la2 u.subs.length lc2) u.subs) : Ok Tryz.prog 17 #[.agg (TV t da1 dc1 la1 lc1), .agg (TV u da2 dc2 la2 lc2)] w0 M (fun M' r => M = M' ∧ r = .bool (decide (Small t ∧ Small u ∧ t = u))) := by
  have hS := hM.st
  refine enterB (l := [.agg (TV (t) da1 dc1 la1 lc1), .agg (TV (u) da2 dc2 la2 lc2)]) 16 func17 rfl ntmps17 rfl ?_
  refine CW.seq ?_
  refine CW.region ?_
  refine WL.step rfl (Stp.boxA (cs := TV (t) da1 dc1 la1 lc1) rfl rfl rfl rfl hS ?_)
  intro b2_0 w hbb2_0 hS hkp hnw
  obtain ⟨M2, hG2, hbb2_0_2, hS⟩ : ∃ Mx, Grow w0.heap.size M Mx ∧ Kb Mx b2_0 (.cells (TV (t) da1 dc1 la1 lc1) 32 (0, 0)) ∧ St w0 w Mx ([]) := by
    have hF := hS.freezeG (i := 0) rfl hbb2_0
    exact ⟨_, hF.2, PH.add_self _ _ _, hF.1⟩
  refine WL.step rfl (Stp.boxA (cs := TV (u) da2 dc2 la2 lc2) rfl rfl rfl rfl hS ?_)
  intro b3_2 w hbb3_2 hS hkp hnw
  obtain ⟨M4, hG4, hbb3_2_4, hS⟩ : ∃ Mx, Grow w0.heap.size M2 Mx ∧ Kb Mx b3_2 (.cells (TV (u) da2 dc2 la2 lc2) 32 (0, 0)) ∧ St w0 w Mx ([]) := by
    have hF := hS.freezeG (i := 0) rfl hbb3_2
    exact ⟨_, hF.2, PH.add_self _ _ _, hF.1⟩
  refine WL.step rfl (Stp.res rfl rfl (Res.assign rfl rfl) ?_)
  refine WL.nil (Thn_n ?_)
  refine CW.seq ?_
  refine CW.region ?_
  refine WL.step rfl (Stp.res rfl rfl (Res.loadAll (cs := TV (t) da1 dc1 la1 lc1) rfl rfl underlying32 rfl sz32 (hS.on _ _ (hbb2_0_2.mono hG4.1))) ?_)
  refine WL.step rfl (Stp.callG (args := [.agg (TV (t) da1 dc1 la1 lc1)]) rfl rfl rfl cal60 rfl rfl hS (small_ok (t) _ _ _ _ _ _ hS.on (hd1.mono (hG2.trans hG4).1) (hs1.mono (hG2.trans hG4).1)) ?_)
  rintro _ w _ hS _ ⟨rfl, rfl⟩
  refine WL.step rfl (Stp.res rfl rfl (Res.move rfl rfl) ?_)
  by_cases hg5 : Small t
  · refine WL.stepG 2 true rfl rfl rfl (bT hg5) (Stp.res rfl rfl (Res.loadAll (cs := TV (u) da2 dc2 la2 lc2) rfl rfl underlying32 rfl sz32 (hS.on _ _ hbb3_2_4)) ?_)
    refine WL.stepG 2 true rfl rfl rfl (bT hg5) (Stp.callG (args := [.agg (TV (u) da2 dc2 la2 lc2)]) rfl rfl rfl cal60 rfl rfl hS (small_ok (u) _ _ _ _ _ _ hS.on (hd2.mono (hG2.trans hG4).1) (hs2.mono (hG2.trans hG4).1)) ?_)
    rintro _ w _ hS _ ⟨rfl, rfl⟩
    refine WL.step rfl (Stp.res rfl rfl (Res.pickT rfl (bT hg5) rfl) ?_)
    refine WL.step rfl (Stp.res rfl rfl (Res.move rfl rfl) ?_)
    by_cases hg6 : Small u
    · refine WL.stepG 6 true rfl rfl rfl (bT hg6) (Stp.res rfl rfl (Res.loadAll (cs := TV (t) da1 dc1 la1 lc1) rfl rfl underlying32 rfl sz32 (hS.on _ _ (hbb2_0_2.mono hG4.1))) ?_)
      refine WL.stepG 6 true rfl rfl rfl (bT hg6) (Stp.res rfl rfl (Res.loadAll (cs := TV (u) da2 dc2 la2 lc2) rfl rfl underlying32 rfl sz32 (hS.on _ _ hbb3_2_4)) ?_)
      refine WL.stepG 6 true rfl rfl rfl (bT hg6) (Stp.callG (args := [.agg (TV (t) da1 dc1 la1 lc1), .agg (TV (u) da2 dc2 la2 lc2)]) rfl rfl rfl cal61 rfl rfl hS (rsame_ok (t) (u) _ _ _ _ _ _ _ _ _ _ hS.on (hd1.mono (hG2.trans hG4).1) (hs1.mono (hG2.trans hG4).1) (hd2.mono (hG2.trans hG4).1) (hs2.mono (hG2.trans hG4).1)) ?_)
      rintro _ w _ hS _ ⟨rfl, rfl⟩
      refine WL.step rfl (Stp.res rfl rfl (Res.pickT rfl (bT hg6) rfl) ?_)
      refine WL.step rfl (Stp.res rfl rfl (Res.assign rfl rfl) ?_)
      refine WL.nil (Thn_n ?_)
      refine CW.ret ?_
      exact fq_tmp rfl rfl ⟨M, (hS.known (hG2.trans hG4).1), PH.le.refl _, Fresh.refl _ _, rfl, (congrArg Value.bool (decide_eq_decide.2 ⟨fun h => ⟨by assumption, by assumption, h⟩, fun h => h.2.2⟩))⟩
    · refine WL.skipG 6 true rfl rfl rfl (bF hg6) rfl rfl ?_
      refine WL.skipG 6 true rfl rfl rfl (bF hg6) rfl rfl ?_
      refine WL.skipG 6 true rfl rfl rfl (bF hg6) rfl rfl ?_
      refine WL.step rfl (Stp.res rfl rfl (Res.pickF rfl (bF hg6) rfl) ?_)
      refine WL.step rfl (Stp.res rfl rfl (Res.assign rfl rfl) ?_)
      refine WL.nil (Thn_n ?_)
      refine CW.ret ?_
      exact fq_tmp rfl rfl ⟨M, (hS.known (hG2.trans hG4).1), PH.le.refl _, Fresh.refl _ _, rfl, (congrArg Value.bool ((decide_eq_false (fun h => by first | exact absurd h.1 (by assumption) | exact absurd h.2.1 (by assumption))).symm))⟩
  · refine WL.skipG 2 true rfl rfl rfl (bF hg5) rfl rfl ?_
    refine WL.skipG 2 true rfl rfl rfl (bF hg5) rfl rfl ?_
    refine WL.step rfl (Stp.res rfl rfl (Res.pickF rfl (bF hg5) rfl) ?_)
    refine WL.step rfl (Stp.res rfl rfl (Res.move rfl rfl) ?_)
    refine WL.skipG 6 true rfl rfl rfl rfl rfl rfl ?_
    refine WL.skipG 6 true rfl rfl rfl rfl rfl rfl ?_
    refine WL.skipG 6 true rfl rfl rfl rfl rfl rfl ?_
    refine WL.step rfl (Stp.res rfl rfl (Res.pickF rfl rfl rfl) ?_)
    refine WL.step rfl (Stp.res rfl rfl (Res.assign rfl rfl) ?_)
    refine WL.nil (Thn_n ?_)
    refine CW.ret ?_
    exact fq_tmp rfl rfl ⟨M, (hS.known (hG2.trans hG4).1), PH.le.refl _, Fresh.refl _ _, rfl, (congrArg Value.bool ((decide_eq_false (fun h => by first | exact absurd h.1 (by assumption) | exact absurd h.2.1 (by assumption))).symm))⟩
end Go.Proofs.YtcmgimicdcchlaaGreatDoor
set_option linter.unusedSimpArgs false
set_option linter.unusedVariables false
set_option maxRecDepth 20000
namespace Go.Proofs.YtcmgimicdcchlaaGreatDoor
open Go.Proofs.Tryz
open Go Go.E Go.Trm
def ChkR (M : PH) (z : Int) (r : Value) : Prop := (z = 0 ∧ r = .nilIface) ∨ (¬ z = 0 ∧ BadE M r z)
theorem ChkR.good {M : PH} {z : Int} {r : Value} (h : ChkR M z r) (hz : z = 0) : r = .nilIface := by
  rcases h with h | h
  · exact h.2
  · exact absurd hz h.1
theorem ChkR.bad {M : PH} {z : Int} {r : Value} (h : ChkR M z r) (hz : ¬ z = 0) : BadE M r z := by
  rcases h with h | h
  · exact absurd h.1 hz
  · exact h.2
def ApR (M : PH) (l : List T) (r : Value) : Prop := (chkE l = 0 ∧ ∃ a c, r = .tuple #[.slice a (apartT l).length c, .int .i64 0] ∧ Ts M (.slice a (apartT l).length c) (apartT l)) ∨ (¬ chkE l = 0 ∧ r = .tuple #[.slice none 0 0, .int .i64 (chkE l)])
theorem ApR.good {M : PH} {l : List T} {r : Value} (h : ApR M l r) (hz : chkE l = 0) : ∃ a c, r = .tuple #[.slice a (apartT l).length c, .int .i64 0] ∧ Ts M (.slice a (apartT l).length c) (apartT l) := by
  rcases h with h | h
  · exact h.2
  · exact absurd hz h.1
theorem ApR.bad {M : PH} {l : List T} {r : Value} (h : ApR M l r) (hz : ¬ chkE l = 0) : r = .tuple #[.slice none 0 0, .int .i64 (chkE l)] := by
  rcases h with h | h
  · exact absurd h.1 hz
  · exact h.2
theorem cal56 : Callable Tryz.prog 56 := ⟨Tryz.f56, func56, rfl, by kernel_rfl⟩
theorem cal59 : Callable Tryz.prog 59 := ⟨Tryz.f59, func59, rfl, by kernel_rfl⟩
theorem tcheck_ok (l : List T) (ka : Option Addr) (kc : Nat) (w0 : World) (M : PH) (hM : On M w0) (hgl : GL M) (hge : GE M) (hk : Ts M (.slice ka l.length kc) l) (hfa : ∀ t ∈ l, Fine t) : Ok Tryz.prog 56 #[.slice ka l.length kc] w0 M (fun M' r => ChkR M' (chkE l) r) := by
  have hS := hM.st
  have hbl := hk.len
  refine enterB (l := [.slice (ka) (l.length) (kc)]) 29 func56 rfl ntmps56 rfl ?_
  refine CW.seq ?_
  refine CW.region ?_
  refine WL.step rfl (Stp.res rfl rfl (Res.assign rfl rfl) ?_)
  refine WL.nil (Thn_n ?_)
  refine CW.seq ?_
  refine CW.seq ?_
  refine CW.region ?_
  refine WL.step rfl (Stp.res rfl rfl (Res.move rfl rfl) ?_)
  refine WL.step rfl (Stp.res rfl rfl (Res.len rfl rfl rfl rfl underlying22) ?_)
  refine WL.step rfl (Stp.res rfl rfl (Res.gtr rfl rfl rfl) ?_)
  refine WL.nil (Thn_n ?_)
  refine CW.ite rfl (fun hc1 => ?_) (fun hc1 => ?_)
  · refine CW.seq ?_
    refine CW.region ?_
    refine WL.step rfl (Stp.res rfl rfl (Res.build (vals := [(0, .int .i64 ((0 : Nat) : Int)), (1, .int .i64 ((3 : Nat) : Int))]) (cs := #[.int .i64 ((0 : Nat) : Int), .int .i64 ((3 : Nat) : Int)]) rfl rfl (fun _ => by kernel_rfl)) ?_)
    refine WL.step rfl (Stp.boxA (cs := #[.int .i64 ((0 : Nat) : Int), .int .i64 ((3 : Nat) : Int)]) rfl rfl rfl rfl hS ?_)
    intro b11_1 w hbb11_1 hS hkp hnw
    obtain ⟨M3, hG3, hbb11_1_3, hS⟩ : ∃ Mx, Grow w0.heap.size M Mx ∧ Kb Mx b11_1 (.cells (#[.int .i64 ((0 : Nat) : Int), .int .i64 ((3 : Nat) : Int)]) 130 (0, 0)) ∧ St w0 w Mx ([]) := by
      have hF := hS.freezeG (i := 0) rfl hbb11_1
      exact ⟨_, hF.2, PH.add_self _ _ _, hF.1⟩
    refine WL.step rfl (Stp.res rfl rfl (Res.mkIface rfl rfl underlying128 rfl) ?_)
    refine WL.step rfl (Stp.res rfl rfl (Res.assign rfl rfl) ?_)
    refine WL.nil (Thn_n ?_)
    refine CW.ret (Thn_r ?_)
    rw [chk_long (by omega)]
    exact fq_tmp rfl rfl ⟨_, hS, hG3.1, hG3.2, .inr ⟨by decide, _, _, rfl, hbb11_1_3⟩⟩
  · refine CW.skip (Thn_n ?_)
    refine CW.seq ?_
    refine CW.seq ?_
    refine CW.region ?_
    refine WL.step rfl (Stp.res rfl rfl (Res.move rfl rfl) ?_)
    refine WL.step rfl (Stp.res rfl rfl (Res.len rfl rfl rfl rfl underlying22) ?_)
    refine WL.step rfl (Stp.res rfl rfl (Res.move rfl rfl) ?_)
    refine WL.nil (Thn_n ?_)
    refine CW.block ?_
    refine CW.loop (σ := Nat) (fun i => [(13, .slice (ka) (l.length) (kc)), (14, .int .i64 ((l.length : Nat) : Int)), (15, .int .i64 ((i : Nat) : Int))])
      (fun i w' => i ≤ l.length ∧ (∀ j, j < i → ∃ b, bytesR (l.getD j T0) = some b) ∧ St w0 w' M ([])) (fun i => l.length - i) 0 ⟨rfl, rfl, rfl, trivial⟩ ⟨by omega, fun j hj => by omega, hS⟩ ?_
    rintro i w ⟨hi, hall, hS⟩
    refine CW.seq ?_
    refine CW.region ?_
    refine WL.step rfl (Stp.res rfl rfl (Res.lss rfl rfl rfl) ?_)
    refine WL.nil (Thn_n ?_)
    refine CW.seq ?_
    refine CW.ite rfl (fun hc4 => ?_) (fun hc4 => ?_)
    · refine CW.skip (Thn_n ?_)
      refine CW.seq ?_
      refine CW.block ?_
      refine CW.seq ?_
      refine CW.region ?_
      obtain ⟨be5, oe5, dae5, dce5, sae5, sce5, eae5, hce5, hde5, hse5⟩ := Ts2.get (j := i) hk (by omega)
      have hne5 := hse5.len
      refine WL.step rfl (Stp.res rfl rfl (Res.idxT 5 (k := i) rfl rfl eae5 rfl underlying22 sz35 (Int.toNat_natCast _) (by omega)) ?_)
      refine WL.step rfl (Stp.res rfl rfl (Res.loadN (r := (TV ((l.getD i T0)) dae5 dce5 sae5 sce5).toList) rfl rfl underlying35 rfl sz35 rfl (fun j u hu => hS.cell (hce5 j u hu))) ?_)
      refine WL.step rfl (Stp.alloc (cs := #[.int .i64 ((0 : Nat) : Int), .slice (none) (0) (0), Go.E.str ([]), .int .i64 ((0 : Nat) : Int), .slice (none) (0) (0)]) rfl zt35 rfl rfl rfl hS ?_)
      intro b4_5 w hbb4_5 hS hkp hnw
      refine WL.step rfl (Stp.storeAll 0 rfl rfl rfl (sz35) (Tm.of hde5 hse5).one rfl hS rfl rfl ?_)
      intro w hS hpt
      change St w0 _ M ([(b4_5, .cells (TV ((l.getD i T0)) dae5 dce5 sae5 sce5) 35 (0, 0))]) at hS
      obtain ⟨M7, hG7, hbb4_5_7, hS⟩ : ∃ Mx, Grow w0.heap.size M Mx ∧ Kb Mx b4_5 (.cells (TV ((l.getD i T0)) dae5 dce5 sae5 sce5) 35 (0, 0)) ∧ St w0 w Mx ([]) := by
        have hF := hS.freezeG (i := 0) rfl hbb4_5
        exact ⟨_, hF.2, PH.add_self _ _ _, hF.1⟩
      refine WL.nil (Thn_n ?_)
      refine CW.seq ?_
      rcases hbr : bytesR (l.getD i T0) with _ | b
      · refine CW.region ?_
        refine WL.step rfl (Stp.res rfl rfl (Res.loadAll (cs := TV ((l.getD i T0)) dae5 dce5 sae5 sce5) rfl rfl underlying35 rfl sz35 (hS.on _ _ hbb4_5_7)) ?_)
        refine WL.step rfl (Stp.callG (args := [.agg (TV ((l.getD i T0)) dae5 dce5 sae5 sce5)]) rfl rfl rfl cal20 rfl rfl hS ((by have h := Tbytes_ok (l.getD i T0) _ _ _ _ _ _ hS.on (hgl.mono hG7.1) (hge.mono hG7.1) (hde5.mono hG7.1) (hse5.mono hG7.1) (hfa _ (getD_mem (by omega))); rw [hbr] at h; exact h)) ?_)
        rintro _ w M9 hS hG9 rfl
        refine WL.step rfl (Stp.res rfl rfl (Res.move rfl rfl) ?_)
        refine WL.step rfl (Stp.res rfl rfl (Res.extract (l := [_, _]) rfl rfl rfl) ?_)
        refine WL.step rfl (Stp.res rfl rfl (Res.extract (l := [_, _]) rfl rfl rfl) ?_)
        refine WL.step rfl (Stp.res rfl rfl (Res.assign rfl rfl) ?_)
        refine WL.step rfl (Stp.res rfl rfl (Res.assign rfl rfl) ?_)
        refine WL.nil (Thn_n ?_)
        refine CW.seq ?_
        refine CW.region ?_
        refine WL.step rfl (Stp.res rfl rfl (Res.move rfl rfl) ?_)
        refine WL.step rfl (Stp.res rfl rfl (Res.neq rfl rfl rfl) ?_)
        refine WL.nil (Thn_n ?_)
        refine CW.condT (bT (by omega)) ?_
        refine CW.seq ?_
        refine CW.region ?_
        refine WL.step rfl (Stp.res rfl rfl (Res.loadAll (cs := TV ((l.getD i T0)) dae5 dce5 sae5 sce5) rfl rfl underlying35 rfl sz35 (hS.on _ _ (hbb4_5_7.mono hG9.1))) ?_)
        refine WL.step rfl (Stp.callG (args := [.agg (TV ((l.getD i T0)) dae5 dce5 sae5 sce5)]) rfl rfl rfl cal92 rfl rfl hS (wrong_ok ((l.getD i T0)) _ _ _ _ _ _ hS.on (hde5.mono (hG7.trans hG9).1) (hse5.mono (hG7.trans hG9).1)) ?_)
        rintro _ w M11 hS hG11 ⟨ewe10, kwe10, rfl, hwe10⟩
        refine WL.step rfl (Stp.res rfl rfl (Res.assign rfl rfl) ?_)
        refine WL.nil (Thn_n ?_)
        refine CW.ret (Blk_r (Thn_r (Thn_r (Blk_r (Thn_r ?_)))))
        rw [chk_bad (by omega) (by omega) hbr]
        exact fq_tmp rfl rfl ⟨_, hS, ((hG7.trans hG9).trans hG11).1, ((hG7.trans hG9).trans hG11).2, .inr ⟨by decide, _, _, rfl, hwe10⟩⟩
      · refine CW.region ?_
        refine WL.step rfl (Stp.res rfl rfl (Res.loadAll (cs := TV ((l.getD i T0)) dae5 dce5 sae5 sce5) rfl rfl underlying35 rfl sz35 (hS.on _ _ hbb4_5_7)) ?_)
        refine WL.step rfl (Stp.callG (args := [.agg (TV ((l.getD i T0)) dae5 dce5 sae5 sce5)]) rfl rfl rfl cal20 rfl rfl hS ((by have h := Tbytes_ok (l.getD i T0) _ _ _ _ _ _ hS.on (hgl.mono hG7.1) (hge.mono hG7.1) (hde5.mono hG7.1) (hse5.mono hG7.1) (hfa _ (getD_mem (by omega))); rw [hbr] at h; exact h)) ?_)
        rintro _ w M13 hS hG13 ⟨ay12, cy12, rfl, hy12⟩
        refine WL.step rfl (Stp.res rfl rfl (Res.move rfl rfl) ?_)
        refine WL.step rfl (Stp.res rfl rfl (Res.extract (l := [_, _]) rfl rfl rfl) ?_)
        refine WL.step rfl (Stp.res rfl rfl (Res.extract (l := [_, _]) rfl rfl rfl) ?_)
        refine WL.step rfl (Stp.res rfl rfl (Res.assign rfl rfl) ?_)
        refine WL.step rfl (Stp.res rfl rfl (Res.assign rfl rfl) ?_)
        refine WL.nil (Thn_n ?_)
        refine CW.seq ?_
        refine CW.region ?_
        refine WL.step rfl (Stp.res rfl rfl (Res.move rfl rfl) ?_)
        refine WL.step rfl (Stp.res rfl rfl (Res.neq rfl rfl rfl) ?_)
        refine WL.nil (Thn_n ?_)
        refine CW.condF (bF (by omega)) ?_
        refine CW.skip (Blk_n (Thn_n ?_))
        refine CW.region ?_
        refine WL.step rfl (Stp.res rfl rfl (Res.cast (Res.add rfl rfl rfl (by omega)) (show _ = (.int .i64 ((i + 1 : Nat) : Int) : Value) from congrArg (Value.int .i64) (by omega))) ?_)
        refine WL.step rfl (Stp.res rfl rfl (Res.move rfl rfl) ?_)
        refine WL.nil (Thn_n ?_)
        exact ⟨i + 1, ⟨(rfl), (rfl), (by first | rfl | exact intc (by omega)), trivial⟩, ⟨by omega, (fun j hj => by
            by_cases e : j = i
            · rw [e]; exact ⟨_, hbr⟩
            · exact hall j (by omega)), hS.known (hG7.trans hG13).1⟩, by omega⟩
    · refine CW.exit (Thn_x (Thn_x (Blk_x (Thn_n ?_))))
      refine CW.seq ?_
      refine CW.region ?_
      refine WL.step rfl (Stp.res rfl rfl (Res.assign rfl rfl) ?_)
      refine WL.nil (Thn_n ?_)
      refine CW.ret ?_
      rw [chk_good (by omega) (fun j hj => hall j (by omega))]
      exact fq_tmp rfl rfl ⟨M, hS, PH.le.refl _, Fresh.refl _ _, .inl ⟨rfl, rfl⟩⟩
theorem Tapart_ok (l : List T) (ka : Option Addr) (kc : Nat) (w0 : World) (M : PH) (hM : On M w0) (hgl : GL M) (hge : GE M) (hk : Ts M (.slice ka l.length kc) l) (hfa : ∀ t ∈ l, Fine t) : Ok Tryz.prog 15 #[.slice ka l.length kc] w0 M (fun M' r => ApR M' l r) := by
  have hS := hM.st
  have hbl := hk.len
  refine enterB (l := [.slice (ka) (l.length) (kc)]) 48 func15 rfl ntmps15 rfl ?_
  refine CW.seq ?_
  refine CW.region ?_
  refine WL.step rfl (Stp.res rfl rfl (Res.assign rfl rfl) ?_)
  refine WL.step rfl (Stp.res rfl rfl (Res.assign rfl rfl) ?_)
  refine WL.nil (Thn_n ?_)
  refine CW.seq ?_
  refine CW.seq ?_
  rcases Decidable.em (chkE l = 0) with hce | hce
  · have hsz9 := chk_sizes hce
    refine CW.region ?_
    refine WL.step rfl (Stp.res rfl rfl (Res.move rfl rfl) ?_)
    refine WL.step rfl (Stp.callG (args := [.slice (ka) (l.length) (kc)]) rfl rfl rfl cal56 rfl rfl hS ((tcheck_ok l _ _ _ _ hS.on hgl hge hk hfa).imp (Ψ := fun _ r => r = .nilIface) (fun M8 v _ h => h.good hce)) ?_)
    rintro _ w M2 hS hG2 rfl
    refine WL.step rfl (Stp.res rfl rfl (Res.assign rfl rfl) ?_)
    refine WL.nil (Thn_n ?_)
    refine CW.seq ?_
    refine CW.region ?_
    refine WL.step rfl (Stp.res rfl rfl (Res.move rfl rfl) ?_)
    refine WL.step rfl (Stp.res rfl rfl (Res.neqNN rfl rfl underlying86) ?_)
    refine WL.nil (Thn_n ?_)
    refine CW.condF rfl ?_
    refine CW.skip (Thn_n ?_)
    refine CW.seq ?_
    refine CW.region ?_
    refine WL.step rfl (Stp.res rfl rfl (Res.assign rfl rfl) ?_)
    refine WL.nil (Thn_n ?_)
    refine CW.seq ?_
    refine CW.seq ?_
    refine CW.region ?_
    refine WL.step rfl (Stp.res rfl rfl (Res.move rfl rfl) ?_)
    refine WL.step rfl (Stp.res rfl rfl (Res.len rfl rfl rfl rfl underlying22) ?_)
    refine WL.step rfl (Stp.res rfl rfl (Res.move rfl rfl) ?_)
    refine WL.nil (Thn_n ?_)
    refine CW.block ?_
    refine CW.loop (σ := Nat × List T × Owned × Option Addr × Nat) (fun s => [(2, .slice (none) (0) (0)), (3, .int .i64 ((0 : Nat) : Int)), (5, .slice ((s.2.2.2.1)) ((s.2.1).length) ((s.2.2.2.2))), (16, .slice (ka) (l.length) (kc)), (17, .int .i64 ((l.length : Nat) : Int)), (18, .int .i64 (((s.1) : Nat) : Int))])
      (fun s w' => (s.1) ≤ l.length ∧ (s.2.1) = dd [] (l.take (s.1)) ∧ OwnT M w0.heap.size (s.2.2.1) (.slice (s.2.2.2.1) (s.2.1).length (s.2.2.2.2)) (s.2.1) 35 ∧ St w0 w' M2 ((s.2.2.1) ++ ([]))) (fun s => l.length - (s.1)) (0, [], ([] : Owned), none, 0) ⟨rfl, rfl, rfl, rfl, rfl, rfl, trivial⟩ ⟨by dsimp only; omega, by rw [List.take_zero]; rfl, OwnT.nil _ _ _, hS⟩ ?_
    rintro ⟨i, K, g, oa, oc⟩ w ⟨hi, hK, hown, hS⟩
    dsimp only at hi hK hown hS ⊢
    have hKl := dd_len (l := l) i
    rw [← hK] at hKl
    have hKi := dd_len2 (l := l) i
    rw [← hK] at hKi
    refine CW.seq ?_
    refine CW.region ?_
    refine WL.step rfl (Stp.res rfl rfl (Res.lss rfl rfl rfl) ?_)
    refine WL.nil (Thn_n ?_)
    refine CW.seq ?_
    refine CW.ite rfl (fun hc3 => ?_) (fun hc3 => ?_)
    · refine CW.skip (Thn_n ?_)
      refine CW.seq ?_
      refine CW.block ?_
      refine CW.seq ?_
      refine CW.region ?_
      obtain ⟨be4, oe4, dae4, dce4, sae4, sce4, eae4, hce4, hde4, hse4⟩ := Ts2.get (j := i) hk (by omega)
      have hne4 := hse4.len
      refine WL.step rfl (Stp.res rfl rfl (Res.idxT 5 (k := i) rfl rfl eae4 rfl underlying22 sz35 (Int.toNat_natCast _) (by omega)) ?_)
      refine WL.step rfl (Stp.res rfl rfl (Res.loadN (r := (TV ((l.getD i T0)) dae4 dce4 sae4 sce4).toList) rfl rfl underlying35 rfl sz35 rfl (fun j u hu => hS.cell (PH.cell_mono hG2.1 (hce4 j u hu)))) ?_)
      refine WL.step rfl (Stp.alloc (cs := #[.int .i64 ((0 : Nat) : Int), .slice (none) (0) (0), Go.E.str ([]), .int .i64 ((0 : Nat) : Int), .slice (none) (0) (0)]) rfl zt35 rfl rfl rfl hS ?_)
      intro b7_4 w hbb7_4 hS hkp hnw
      refine WL.step rfl (Stp.storeAll 0 rfl rfl rfl (sz35) (Tm.of (hde4.mono hG2.1) (hse4.mono hG2.1)).one rfl hS rfl rfl ?_)
      intro w hS hpt
      change St w0 _ M2 ((b7_4, .cells (TV ((l.getD i T0)) dae4 dce4 sae4 sce4) 35 (0, 0)) :: (g ++ ([]))) at hS
      obtain ⟨M6, hG6, hbb7_4_6, hS⟩ : ∃ Mx, Grow w0.heap.size M2 Mx ∧ Kb Mx b7_4 (.cells (TV ((l.getD i T0)) dae4 dce4 sae4 sce4) 35 (0, 0)) ∧ St w0 w Mx (g ++ ([])) := by
        have hF := hS.freezeG (i := 0) rfl hbb7_4
        exact ⟨_, hF.2, PH.add_self _ _ _, hF.1⟩
      refine WL.nil (Thn_n ?_)
      refine CW.seq ?_
      refine CW.region ?_
      refine WL.step rfl (Stp.res rfl rfl (Res.move rfl rfl) ?_)
      refine WL.step rfl (Stp.res rfl rfl (Res.loadAll (cs := TV ((l.getD i T0)) dae4 dce4 sae4 sce4) rfl rfl underlying35 rfl sz35 (hS.on _ _ hbb7_4_6)) ?_)
      obtain ⟨M7, hS, hG7, hle8, hbackle8⟩ := OwnT.lend hown hS
      refine WL.step rfl (Stp.callG (args := [.slice (oa) (K.length) (oc), .agg (TV ((l.getD i T0)) dae4 dce4 sae4 sce4)]) rfl rfl rfl cal58 rfl rfl hS (thas_ok ((l.getD i T0)) (K) _ _ _ _ _ _ _ _ hS.on (hle8.toTs ((hG2.trans hG6).trans hG7).1 (PH.le.refl _)) (hde4.mono ((hG2.trans hG6).trans hG7).1) (hse4.mono ((hG2.trans hG6).trans hG7).1)) ?_)
      rintro _ w _ hS _ ⟨rfl, rfl⟩
      replace hS := hbackle8 _ hS
      refine WL.step rfl (Stp.res rfl rfl (Res.notP rfl rfl rfl) ?_)
      refine WL.nil (Thn_n ?_)
      refine CW.ite rfl (fun hc9 => ?_) (fun hc9 => ?_)
      · have hnin := hc9
        refine CW.region ?_
        refine WL.step rfl (Stp.res rfl rfl (Res.move rfl rfl) ?_)
        refine WL.step rfl (Stp.res rfl rfl (Res.loadAll (cs := TV ((l.getD i T0)) dae4 dce4 sae4 sce4) rfl rfl underlying35 rfl sz35 (hS.on _ _ hbb7_4_6)) ?_)
        refine WL.step rfl (Stp.lit (vals := [(0, .agg (TV ((l.getD i T0)) dae4 dce4 sae4 sce4))]) (cs := TV ((l.getD i T0)) dae4 dce4 sae4 sce4) (e := 35) rfl rfl (fun _ => by kernel_rfl) rfl rfl hS ?_)
        intro b28_9 w hbb28_9 hS hkp hnw
        obtain ⟨M11, hG11, hbb28_9_11, hS⟩ : ∃ Mx, Grow w0.heap.size M6 Mx ∧ Kb Mx b28_9 (.cells (TV ((l.getD i T0)) dae4 dce4 sae4 sce4) 35 (0, 0)) ∧ St w0 w Mx (g ++ ([])) := by
          have hF := hS.freezeG (i := 0) rfl hbb28_9
          exact ⟨_, hF.2, PH.add_self _ _ _, hF.1⟩
        have hl12 : Ts M11 (.slice (some ⟨b28_9, 0, none⟩) (1) (1)) [(l.getD i T0)] := Ts2.lit1 hbb28_9_11 (Tm.of (hde4.mono ((hG2.trans hG6).trans hG11).1) (hse4.mono ((hG2.trans hG6).trans hG11).1))
        refine WL.step rfl (Stp.appendT (r := (l.getD i T0)) rfl rfl rfl rfl etT89 rfl underlying89 hbb28_9_11 (Tm.of hde4 hse4) hS hown (by omega) (by decide) rfl rfl ?_)
        intro aw13 cw13 w gw13 hS howw13
        refine WL.step rfl (Stp.res rfl rfl (Res.assign rfl rfl) ?_)
        refine WL.nil (Blk_n (Thn_n ?_))
        refine CW.region ?_
        refine WL.step rfl (Stp.res rfl rfl (Res.cast (Res.add rfl rfl rfl (by omega)) (show _ = (.int .i64 ((i + 1 : Nat) : Int) : Value) from congrArg (Value.int .i64) (by omega))) ?_)
        refine WL.step rfl (Stp.res rfl rfl (Res.move rfl rfl) ?_)
        refine WL.nil (Thn_n ?_)
        have hdt := dd_take (l := l) (i := i) (by omega)
        rw [← hK] at hdt
        rw [if_neg hnin] at hdt
        have hkl9 : (K ++ [l.getD i T0]).length = K.length + 1 := by simp
        exact ⟨(i + 1, K ++ [(l.getD i T0)], gw13, aw13, cw13), ⟨(rfl), (rfl), (by first | rfl | exact intc (by omega)), (rfl), (rfl), (by first | rfl | exact intc (by omega)), trivial⟩, ⟨by dsimp only; omega, hdt.symm, howw13, hS.known (hG6.trans hG11).1⟩, by dsimp only; omega⟩
      · have hin := Decidable.not_not.1 hc9
        refine CW.skip (Blk_n (Thn_n ?_))
        refine CW.region ?_
        refine WL.step rfl (Stp.res rfl rfl (Res.cast (Res.add rfl rfl rfl (by omega)) (show _ = (.int .i64 ((i + 1 : Nat) : Int) : Value) from congrArg (Value.int .i64) (by omega))) ?_)
        refine WL.step rfl (Stp.res rfl rfl (Res.move rfl rfl) ?_)
        refine WL.nil (Thn_n ?_)
        have hdt := dd_take (l := l) (i := i) (by omega)
        rw [← hK] at hdt
        rw [if_pos hin] at hdt
        exact ⟨(i + 1, K, g, oa, oc), ⟨(rfl), (rfl), (by first | rfl | exact intc (by omega)), (rfl), (rfl), (by first | rfl | exact intc (by omega)), trivial⟩, ⟨by dsimp only; omega, hdt.symm, hown, hS.known hG6.1⟩, by dsimp only; omega⟩
    · refine CW.exit (Thn_x (Thn_x (Blk_x (Thn_n ?_))))
      refine CW.seq ?_
      refine CW.seq ?_
      obtain rfl : i = l.length := by omega
      rw [List.take_length] at hK
      have hway0 : Going l K := by rw [hK]; exact Going.start l
      have hk4 := four hce hway0.1
      refine CW.region ?_
      refine WL.step rfl (Stp.res rfl rfl (Res.move rfl rfl) ?_)
      obtain ⟨M14, hS, hG14, hle15, hbackle15⟩ := OwnT.lend hown hS
      refine WL.step rfl (Stp.callG (args := [.slice (oa) (K.length) (oc)]) rfl rfl rfl cal59 rfl rfl hS (next_ok M K _ _ _ _ hS.on (hG2.trans hG14).1 hle15 hk4) ?_)
      rintro _ w _ hS _ ⟨rfl, un16, dan16, dcn16, lan16, lcn16, mon16, rfl, hdn16, hsn16, hmn16⟩
      replace hS := hbackle15 _ hS
      refine WL.step rfl (Stp.res rfl rfl (Res.move rfl rfl) ?_)
      refine WL.step rfl (Stp.res rfl rfl (Res.extract (l := [_, _]) rfl rfl rfl) ?_)
      refine WL.step rfl (Stp.res rfl rfl (Res.extract (l := [_, _]) rfl rfl rfl) ?_)
      refine WL.step rfl (Stp.alloc (cs := #[.int .i64 ((0 : Nat) : Int), .slice (none) (0) (0), Go.E.str ([]), .int .i64 ((0 : Nat) : Int), .slice (none) (0) (0)]) rfl zt35 rfl rfl rfl hS ?_)
      intro b8_16 w hbb8_16 hS hkp hnw
      refine WL.step rfl (Stp.storeAll 0 rfl rfl rfl (sz35) (Tm.of (hdn16.mono hG2.1) (hsn16.mono hG2.1)).one rfl hS rfl rfl ?_)
      intro w hS hpt
      change St w0 _ M2 ((b8_16, .cells (TV (un16) dan16 dcn16 lan16 lcn16) 35 (0, 0)) :: (g ++ ([]))) at hS
      refine WL.step rfl (Stp.res rfl rfl (Res.assign rfl rfl) ?_)
      refine WL.nil (Thn_n ?_)
      refine CW.block ?_
      replace hS : St w0 _ M2 (g ++ ((b8_16, .cells (TV (un16) dan16 dcn16 lan16 lcn16) 35 (0, 0)) :: ([]))) := hS.mid
      refine CW.loop (σ := List T × Owned × Option Addr × Nat × Nat × T × Option Addr × Nat × Option Addr × Nat × Bool) (fun s => [(2, .slice (none) (0) (0)), (3, .int .i64 ((0 : Nat) : Int)), (5, .slice ((s.2.2.1)) ((s.1).length) ((s.2.2.2.1))), (8, .pointer (some ⟨(s.2.2.2.2.1), 0, none⟩)), (9, .bool ((s.2.2.2.2.2.2.2.2.2.2)))])
        (fun s w' => Going l (s.1) ∧ (((s.2.2.2.2.2.2.2.2.2.2) = true ∧ nextT (s.1) = some (s.2.2.2.2.2.1)) ∨ ((s.2.2.2.2.2.2.2.2.2.2) = false ∧ nextT (s.1) = none)) ∧ OwnT M w0.heap.size (s.2.1) (.slice (s.2.2.1) (s.1).length (s.2.2.2.1)) (s.1) 35 ∧ Bs M (.slice (s.2.2.2.2.2.2.1) (s.2.2.2.2.2.1).data.length (s.2.2.2.2.2.2.2.1)) (s.2.2.2.2.2.1).data ∧ Ts M (.slice (s.2.2.2.2.2.2.2.2.1) (s.2.2.2.2.2.1).subs.length (s.2.2.2.2.2.2.2.2.2.1)) (s.2.2.2.2.2.1).subs ∧ w0.heap.size ≤ (s.2.2.2.2.1) ∧ St w0 w' M2 ((s.2.1) ++ (((s.2.2.2.2.1), .cells (TV (s.2.2.2.2.2.1) (s.2.2.2.2.2.2.1) (s.2.2.2.2.2.2.2.1) (s.2.2.2.2.2.2.2.2.1) (s.2.2.2.2.2.2.2.2.2.1)) 35 (0, 0)) :: ([])))) (fun s => sizes l + 1 - (s.1).length) (K, g, oa, oc, b8_16, un16, dan16, dcn16, lan16, lcn16, mon16) ⟨rfl, rfl, rfl, rfl, rfl, trivial⟩ ⟨hway0, hmn16, hown, hdn16, hsn16, hbb8_16, hS⟩ ?_
      rintro ⟨K, g, oa, oc, b, u, da, dc, la, lc, mo⟩ w ⟨hway, hmo, hown, hd, hs, hb, hS⟩
      dsimp only at hway hmo hown hd hs hb hS ⊢
      have hKl := hway.len
      refine CW.seq ?_
      refine CW.seq ?_
      refine CW.region ?_
      refine WL.step rfl (Stp.res rfl rfl (Res.move rfl rfl) ?_)
      refine WL.nil (Thn_n ?_)
      refine CW.cond rfl (fun hc18 => ?_) (fun hc18 => ?_)
      · have hmore : nextT K = some u := by
          rcases hmo with h | h
          · exact h.2
          · rw [h.1] at hc18; cases hc18
        have hk4 := four hce (hway.next hmore).1
        refine CW.skip (Thn_n ?_)
        refine CW.seq ?_
        refine CW.block ?_
        refine CW.region ?_
        refine WL.step rfl (Stp.res rfl rfl (Res.move rfl rfl) ?_)
        refine WL.step rfl (Stp.res rfl rfl (Res.loadAll (cs := TV (u) da dc la lc) rfl rfl underlying35 rfl sz35 ((hS.pull).get (i := 0) rfl)) ?_)
        refine WL.step rfl (Stp.lit (vals := [(0, .agg (TV (u) da dc la lc))]) (cs := TV (u) da dc la lc) (e := 35) rfl rfl (fun _ => by kernel_rfl) rfl rfl hS ?_)
        intro b44_18 w hbb44_18 hS hkp hnw
        obtain ⟨M20, hG20, hbb44_18_20, hS⟩ : ∃ Mx, Grow w0.heap.size M2 Mx ∧ Kb Mx b44_18 (.cells (TV (u) da dc la lc) 35 (0, 0)) ∧ St w0 w Mx (g ++ ((b, .cells (TV (u) da dc la lc) 35 (0, 0)) :: ([]))) := by
          have hF := hS.freezeG (i := 0) rfl hbb44_18
          exact ⟨_, hF.2, PH.add_self _ _ _, hF.1⟩
        have hl21 : Ts M20 (.slice (some ⟨b44_18, 0, none⟩) (1) (1)) [u] := Ts2.lit1 hbb44_18_20 (Tm.of (hd.mono (hG2.trans hG20).1) (hs.mono (hG2.trans hG20).1))
        refine WL.step rfl (Stp.appendT (r := u) rfl rfl rfl rfl etT89 rfl underlying89 hbb44_18_20 (Tm.of hd hs) hS hown (by omega) (by decide) rfl rfl ?_)
        intro aw22 cw22 w gw22 hS howw22
        refine WL.step rfl (Stp.res rfl rfl (Res.assign rfl rfl) ?_)
        refine WL.nil (Blk_n (Thn_n ?_))
        refine CW.seq ?_
        refine CW.seq ?_
        refine CW.region ?_
        refine WL.step rfl (Stp.res rfl rfl (Res.loadAll (cs := TV (u) da dc la lc) rfl rfl underlying35 rfl sz35 ((hS.pull).get (i := 0) rfl)) ?_)
        refine WL.nil (Thn_n ?_)
        replace hS := hS.pull.drop (i := 0) rfl hb
        refine CW.region ?_
        refine WL.step rfl (Stp.alloc (cs := #[.int .i64 ((0 : Nat) : Int), .slice (none) (0) (0), Go.E.str ([]), .int .i64 ((0 : Nat) : Int), .slice (none) (0) (0)]) rfl zt35 rfl rfl rfl hS ?_)
        intro b8_22 w hbb8_22 hS hkp hnw
        refine WL.step rfl (Stp.storeAll 0 rfl rfl rfl (sz35) (Tm.of (hd.mono (hG2.trans hG20).1) (hs.mono (hG2.trans hG20).1)).one rfl hS rfl rfl ?_)
        intro w hS hpt
        change St w0 _ M20 ((b8_22, .cells (TV (u) da dc la lc) 35 (0, 0)) :: (gw22 ++ ([]))) at hS
        refine WL.nil (Thn_n ?_)
        replace hS : St w0 _ M20 (gw22 ++ ((b8_22, .cells (TV (u) da dc la lc) 35 (0, 0)) :: ([]))) := hS.mid
        refine CW.region ?_
        refine WL.step rfl (Stp.res rfl rfl (Res.move rfl rfl) ?_)
        obtain ⟨M24, hS, hG24, hle25, hbackle25⟩ := OwnT.lend howw22 hS
        refine WL.step rfl (Stp.callG (args := [.slice (aw22) ((K ++ [u]).length) (cw22)]) rfl rfl rfl cal59 rfl rfl hS (next_ok M (K ++ [u]) _ _ _ _ hS.on ((hG2.trans hG20).trans hG24).1 hle25 hk4) ?_)
        rintro _ w _ hS _ ⟨rfl, un26, dan26, dcn26, lan26, lcn26, mon26, rfl, hdn26, hsn26, hmn26⟩
        replace hS := hbackle25 _ hS
        refine WL.step rfl (Stp.res rfl rfl (Res.move rfl rfl) ?_)
        refine WL.step rfl (Stp.res rfl rfl (Res.extract (l := [_, _]) rfl rfl rfl) ?_)
        refine WL.step rfl (Stp.res rfl rfl (Res.extract (l := [_, _]) rfl rfl rfl) ?_)
        replace hS : St w0 _ M20 ((b8_22, .cells (TV (u) da dc la lc) 35 (0, 0)) :: (gw22 ++ ([]))) := hS.pull
        refine WL.step rfl (Stp.storeAll 0 rfl rfl rfl (sz35) (Tm.of (hdn26.mono (hG2.trans hG20).1) (hsn26.mono (hG2.trans hG20).1)).one rfl hS rfl rfl ?_)
        intro w hS hpt
        change St w0 _ M20 ((b8_22, .cells (TV (un26) dan26 dcn26 lan26 lcn26) 35 (0, 0)) :: (gw22 ++ ([]))) at hS
        refine WL.step rfl (Stp.res rfl rfl (Res.assign rfl rfl) ?_)
        refine WL.nil (Thn_n ?_)
        replace hS : St w0 _ M20 (gw22 ++ ((b8_22, .cells (TV (un26) dan26 dcn26 lan26 lcn26) 35 (0, 0)) :: ([]))) := hS.mid
        have hw2 := hway.next hmore
        have hk9 := hw2.len
        have hkl9 : (K ++ [u]).length = K.length + 1 := by simp
        exact ⟨(K ++ [u], gw22, aw22, cw22, b8_22, un26, dan26, dcn26, lan26, lcn26, mon26), ⟨(rfl), (rfl), (by first | rfl | exact intc (by omega)), (by first | rfl | exact intc (by omega)), (by first | rfl | exact intc (by omega)), trivial⟩, ⟨hw2, hmn26, howw22, hdn26, hsn26, hbb8_22, hS.known hG20.1⟩, by dsimp only; omega⟩
      · have hdone : nextT K = none := by
          rcases hmo with h | h
          · rw [h.1] at hc18; cases hc18
          · exact h.2
        refine CW.exit (Thn_x (Thn_x (Blk_x (Thn_n ?_))))
        refine CW.seq ?_
        refine CW.region ?_
        refine WL.step rfl (Stp.res rfl rfl (Res.move rfl rfl) ?_)
        refine WL.step rfl (Stp.res rfl rfl (Res.assign rfl rfl) ?_)
        refine WL.step rfl (Stp.res rfl rfl (Res.assign rfl rfl) ?_)
        refine WL.nil (Thn_n ?_)
        refine CW.ret ?_
        obtain rfl : K = apartT l := hway.done hdone
        obtain ⟨M27, hS, hG27, hgv28⟩ := hown.give hS
        exact fq_tmp2 rfl rfl rfl ⟨_, (hS.drop (i := 0) rfl hb), (hG2.trans hG27).1, (hG2.trans hG27).2, .inl ⟨hce, _, _, rfl, (hgv28.toTs (hG2.trans hG27).1 (PH.le.refl _))⟩⟩
  · refine CW.region ?_
    refine WL.step rfl (Stp.res rfl rfl (Res.move rfl rfl) ?_)
    refine WL.step rfl (Stp.callG (args := [.slice (ka) (l.length) (kc)]) rfl rfl rfl cal56 rfl rfl hS ((tcheck_ok l _ _ _ _ hS.on hgl hge hk hfa).imp (Ψ := fun M8 r => BadE M8 r (chkE l)) (fun M8 v _ h => h.bad hce)) ?_)
    rintro _ w M30 hS hG30 ⟨ey29, ky29, rfl, hy29⟩
    refine WL.step rfl (Stp.res rfl rfl (Res.assign rfl rfl) ?_)
    refine WL.nil (Thn_n ?_)
    refine CW.seq ?_
    refine CW.region ?_
    refine WL.step rfl (Stp.res rfl rfl (Res.move rfl rfl) ?_)
    refine WL.step rfl (Stp.res rfl rfl (Res.neqIN rfl rfl underlying86) ?_)
    refine WL.nil (Thn_n ?_)
    refine CW.condT rfl ?_
    refine CW.seq ?_
    refine CW.region ?_
    refine WL.step rfl (Stp.res rfl rfl (Res.move rfl rfl) ?_)
    refine WL.step rfl (Stp.callG (args := [.iface 128 (.pointer (some ⟨ey29, 0, none⟩))]) rfl rfl rfl cal57 rfl rfl hS (number_badT _ _ _ _ _ hS.on (hge.mono hG30.1) hy29) ?_)
    rintro _ w _ hS _ ⟨rfl, rfl⟩
    refine WL.step rfl (Stp.res rfl rfl (Res.assign rfl rfl) ?_)
    refine WL.step rfl (Stp.res rfl rfl (Res.assign rfl rfl) ?_)
    refine WL.nil (Thn_n ?_)
    refine CW.ret (Thn_r ?_)
    exact fq_tmp2 rfl rfl rfl ⟨_, hS, hG30.1, hG30.2, .inr ⟨hce, rfl⟩⟩
end Go.Proofs.YtcmgimicdcchlaaGreatDoor
set_option linter.unusedSimpArgs false
set_option linter.unusedVariables false
set_option maxRecDepth 20000
namespace Go.Proofs.YtcmgimicdcchlaaGreatDoor
open Go.Proofs.Tryz
open Go Go.E Go.Trm
theorem cal15 : Callable Tryz.prog 15 := ⟨Tryz.f15, func15, rfl, by kernel_rfl⟩
theorem cal23 : Callable Tryz.prog 23 := ⟨Tryz.f23, func23, rfl, by kernel_rfl⟩
theorem Tcan_ok (l : List T) (t : T) (ka : Option Addr) (kc : Nat) (da1 : Option Addr) (dc1 : Nat) (la1 : Option Addr) (lc1 : Nat) (w0 : World) (M : PH) (hM : On M w0) (hgl : GL M) (hge : GE M) (hk : Ts M (.slice ka l.length kc) l) (hd1 : Bs M (.slice da1 t.data.length dc1) t.data) (hs1 : Ts M (.slice la1 t.subs.length lc1) t.subs) (hfa : ∀ t ∈ l, Fine t) (hf : Fine t) : Ok Tryz.prog 19 #[.agg (TV t da1 dc1 la1 lc1), .slice ka l.length kc] w0 M (fun M' r => M = M' ∧ r = .tuple #[.bool (decide (canE l t = 0 ∧ KCan (apartT l) t)), .int .i64 (canE l t)]) := by
  have hS := hM.st
  have hbl := hk.len
  refine enterB (l := [.agg (TV (t) da1 dc1 la1 lc1), .slice (ka) (l.length) (kc)]) 29 func19 rfl ntmps19 rfl ?_
  refine CW.seq ?_
  refine CW.region ?_
  refine WL.step rfl (Stp.boxA (cs := TV (t) da1 dc1 la1 lc1) rfl rfl rfl rfl hS ?_)
  intro b2_0 w hbb2_0 hS hkp hnw
  obtain ⟨M2, hG2, hbb2_0_2, hS⟩ : ∃ Mx, Grow w0.heap.size M Mx ∧ Kb Mx b2_0 (.cells (TV (t) da1 dc1 la1 lc1) 35 (0, 0)) ∧ St w0 w Mx ([]) := by
    have hF := hS.freezeG (i := 0) rfl hbb2_0
    exact ⟨_, hF.2, PH.add_self _ _ _, hF.1⟩
  refine WL.step rfl (Stp.res rfl rfl (Res.assign rfl rfl) ?_)
  refine WL.step rfl (Stp.res rfl rfl (Res.assign rfl rfl) ?_)
  refine WL.nil (Thn_n ?_)
  refine CW.seq ?_
  rcases Decidable.em (chkE l = 0) with hce | hce
  · refine CW.region ?_
    refine WL.step rfl (Stp.res rfl rfl (Res.move rfl rfl) ?_)
    refine WL.step rfl (Stp.callG (args := [.slice (ka) (l.length) (kc)]) rfl rfl rfl cal15 rfl rfl hS ((Tapart_ok l _ _ _ _ hS.on (hgl.mono hG2.1) (hge.mono hG2.1) (hk.mono hG2.1) hfa).imp (Ψ := fun M8 r => ∃ a c, r = .tuple #[.slice a (apartT l).length c, .int .i64 0] ∧ Ts M8 (.slice a (apartT l).length c) (apartT l)) (fun M8 v _ h => h.good hce)) ?_)
    rintro _ w M4 hS hG4 ⟨aap3, cap3, rfl, hap3⟩
    refine WL.step rfl (Stp.res rfl rfl (Res.move rfl rfl) ?_)
    refine WL.step rfl (Stp.res rfl rfl (Res.extract (l := [_, _]) rfl rfl rfl) ?_)
    refine WL.step rfl (Stp.res rfl rfl (Res.extract (l := [_, _]) rfl rfl rfl) ?_)
    refine WL.step rfl (Stp.res rfl rfl (Res.assign rfl rfl) ?_)
    refine WL.step rfl (Stp.res rfl rfl (Res.assign rfl rfl) ?_)
    refine WL.nil (Thn_n ?_)
    refine CW.seq ?_
    refine CW.seq ?_
    refine CW.region ?_
    refine WL.step rfl (Stp.res rfl rfl (Res.move rfl rfl) ?_)
    refine WL.step rfl (Stp.res rfl rfl (Res.neq rfl rfl rfl) ?_)
    refine WL.nil (Thn_n ?_)
    refine CW.condF (bF (by omega)) ?_
    refine CW.skip (Thn_n ?_)
    refine CW.seq ?_
    refine CW.seq ?_
    rcases hbr : bytesR t with _ | b
    · refine CW.region ?_
      refine WL.step rfl (Stp.res rfl rfl (Res.loadAll (cs := TV (t) da1 dc1 la1 lc1) rfl rfl underlying35 rfl sz35 (hS.on _ _ (hbb2_0_2.mono hG4.1))) ?_)
      refine WL.step rfl (Stp.callG (args := [.agg (TV (t) da1 dc1 la1 lc1)]) rfl rfl rfl cal20 rfl rfl hS ((by have h := Tbytes_ok t _ _ _ _ _ _ hS.on (hgl.mono (hG2.trans hG4).1) (hge.mono (hG2.trans hG4).1) (hd1.mono (hG2.trans hG4).1) (hs1.mono (hG2.trans hG4).1) hf; rw [hbr] at h; exact h)) ?_)
      rintro _ w M6 hS hG6 rfl
      refine WL.step rfl (Stp.res rfl rfl (Res.move rfl rfl) ?_)
      refine WL.step rfl (Stp.res rfl rfl (Res.extract (l := [_, _]) rfl rfl rfl) ?_)
      refine WL.step rfl (Stp.res rfl rfl (Res.extract (l := [_, _]) rfl rfl rfl) ?_)
      refine WL.step rfl (Stp.res rfl rfl (Res.assign rfl rfl) ?_)
      refine WL.step rfl (Stp.res rfl rfl (Res.assign rfl rfl) ?_)
      refine WL.nil (Thn_n ?_)
      refine CW.seq ?_
      refine CW.region ?_
      refine WL.step rfl (Stp.res rfl rfl (Res.move rfl rfl) ?_)
      refine WL.step rfl (Stp.res rfl rfl (Res.neq rfl rfl rfl) ?_)
      refine WL.nil (Thn_n ?_)
      refine CW.condT (bT (by omega)) ?_
      refine CW.seq ?_
      refine CW.region ?_
      refine WL.step rfl (Stp.res rfl rfl (Res.move rfl rfl) ?_)
      refine WL.step rfl (Stp.res rfl rfl (Res.assign rfl rfl) ?_)
      refine WL.step rfl (Stp.res rfl rfl (Res.assign rfl rfl) ?_)
      refine WL.nil (Thn_n ?_)
      refine CW.ret (Thn_r ?_)
      have hee : canE l t = 290 := by rw [canE, if_pos hce, bytesE, hbr]
      rw [hee]
      exact fq_tmp2 rfl rfl rfl ⟨M, (hS.known ((hG2.trans hG4).trans hG6).1), PH.le.refl _, Fresh.refl _ _, rfl, (congrArg (fun p => Value.tuple #[.bool p, _]) ((decide_eq_false (fun h => by omega)).symm))⟩
    · refine CW.region ?_
      refine WL.step rfl (Stp.res rfl rfl (Res.loadAll (cs := TV (t) da1 dc1 la1 lc1) rfl rfl underlying35 rfl sz35 (hS.on _ _ (hbb2_0_2.mono hG4.1))) ?_)
      refine WL.step rfl (Stp.callG (args := [.agg (TV (t) da1 dc1 la1 lc1)]) rfl rfl rfl cal20 rfl rfl hS ((by have h := Tbytes_ok t _ _ _ _ _ _ hS.on (hgl.mono (hG2.trans hG4).1) (hge.mono (hG2.trans hG4).1) (hd1.mono (hG2.trans hG4).1) (hs1.mono (hG2.trans hG4).1) hf; rw [hbr] at h; exact h)) ?_)
      rintro _ w M8 hS hG8 ⟨ay7, cy7, rfl, hy7⟩
      refine WL.step rfl (Stp.res rfl rfl (Res.move rfl rfl) ?_)
      refine WL.step rfl (Stp.res rfl rfl (Res.extract (l := [_, _]) rfl rfl rfl) ?_)
      refine WL.step rfl (Stp.res rfl rfl (Res.extract (l := [_, _]) rfl rfl rfl) ?_)
      refine WL.step rfl (Stp.res rfl rfl (Res.assign rfl rfl) ?_)
      refine WL.step rfl (Stp.res rfl rfl (Res.assign rfl rfl) ?_)
      refine WL.nil (Thn_n ?_)
      refine CW.seq ?_
      refine CW.region ?_
      refine WL.step rfl (Stp.res rfl rfl (Res.move rfl rfl) ?_)
      refine WL.step rfl (Stp.res rfl rfl (Res.neq rfl rfl rfl) ?_)
      refine WL.nil (Thn_n ?_)
      refine CW.condF (bF (by omega)) ?_
      refine CW.skip (Thn_n ?_)
      refine CW.seq ?_
      refine CW.region ?_
      refine WL.step rfl (Stp.res rfl rfl (Res.move rfl rfl) ?_)
      refine WL.step rfl (Stp.res rfl rfl (Res.loadAll (cs := TV (t) da1 dc1 la1 lc1) rfl rfl underlying35 rfl sz35 (hS.on _ _ (hbb2_0_2.mono (hG4.trans hG8).1))) ?_)
      refine WL.step rfl (Stp.callG (args := [.slice (aap3) ((apartT l).length) (cap3), .agg (TV (t) da1 dc1 la1 lc1)]) rfl rfl rfl cal64 rfl rfl hS (tmakes_ok ((apartT l)) (t) _ _ _ _ _ _ _ _ hS.on (hap3.mono hG8.1) (hd1.mono ((hG2.trans hG4).trans hG8).1) (hs1.mono ((hG2.trans hG4).trans hG8).1)) ?_)
      rintro _ w _ hS _ ⟨rfl, rfl⟩
      refine WL.step rfl (Stp.res rfl rfl (Res.assign rfl rfl) ?_)
      refine WL.step rfl (Stp.res rfl rfl (Res.assign rfl rfl) ?_)
      refine WL.nil (Thn_n ?_)
      refine CW.ret ?_
      have hee : canE l t = 0 := by rw [canE, if_pos hce, bytesE, hbr]
      rw [hee]
      exact fq_tmp2 rfl rfl rfl ⟨M, (hS.known ((hG2.trans hG4).trans hG8).1), PH.le.refl _, Fresh.refl _ _, rfl, (congrArg (fun p => Value.tuple #[.bool p, _]) (decide_eq_decide.2 ⟨fun h => ⟨rfl, h⟩, fun h => h.2⟩))⟩
  · refine CW.region ?_
    refine WL.step rfl (Stp.res rfl rfl (Res.move rfl rfl) ?_)
    refine WL.step rfl (Stp.callG (args := [.slice (ka) (l.length) (kc)]) rfl rfl rfl cal15 rfl rfl hS ((Tapart_ok l _ _ _ _ hS.on (hgl.mono hG2.1) (hge.mono hG2.1) (hk.mono hG2.1) hfa).imp (Ψ := fun M8 r => r = .tuple #[.slice none 0 0, .int .i64 (chkE l)]) (fun M8 v _ h => h.bad hce)) ?_)
    rintro _ w M10 hS hG10 rfl
    refine WL.step rfl (Stp.res rfl rfl (Res.move rfl rfl) ?_)
    refine WL.step rfl (Stp.res rfl rfl (Res.extract (l := [_, _]) rfl rfl rfl) ?_)
    refine WL.step rfl (Stp.res rfl rfl (Res.extract (l := [_, _]) rfl rfl rfl) ?_)
    refine WL.step rfl (Stp.res rfl rfl (Res.assign rfl rfl) ?_)
    refine WL.step rfl (Stp.res rfl rfl (Res.assign rfl rfl) ?_)
    refine WL.nil (Thn_n ?_)
    refine CW.seq ?_
    refine CW.seq ?_
    refine CW.region ?_
    refine WL.step rfl (Stp.res rfl rfl (Res.move rfl rfl) ?_)
    refine WL.step rfl (Stp.res rfl rfl (Res.neq rfl rfl rfl) ?_)
    refine WL.nil (Thn_n ?_)
    refine CW.condT (bT (by omega)) ?_
    refine CW.seq ?_
    refine CW.region ?_
    refine WL.step rfl (Stp.res rfl rfl (Res.move rfl rfl) ?_)
    refine WL.step rfl (Stp.res rfl rfl (Res.assign rfl rfl) ?_)
    refine WL.step rfl (Stp.res rfl rfl (Res.assign rfl rfl) ?_)
    refine WL.nil (Thn_n ?_)
    refine CW.ret (Thn_r ?_)
    have hee : canE l t = chkE l := if_neg hce
    rw [hee]
    exact fq_tmp2 rfl rfl rfl ⟨M, (hS.known (hG2.trans hG10).1), PH.le.refl _, Fresh.refl _ _, rfl, (congrArg (fun p => Value.tuple #[.bool p, _]) ((decide_eq_false (fun h => hce h.1)).symm))⟩
end Go.Proofs.YtcmgimicdcchlaaGreatDoor
