/- Lemmas on the way to the statement; no condition of its own. -/
import Derived.Test.YtcmgimicdcchlaaGreatDoorQTr
import Derived.Test.YtcmgimicdcchlaaGreatDoorQH2
set_option linter.unusedSimpArgs false
set_option linter.unusedVariables false
set_option maxRecDepth 20000
namespace Go.Proofs.YtcmgimicdcchlaaGreatDoor
open Go.Proofs.Tryz
open Go Go.E Go.Trm
end Go.Proofs.YtcmgimicdcchlaaGreatDoor
set_option linter.unusedSimpArgs false
set_option linter.unusedVariables false
set_option maxRecDepth 20000
namespace Go.Proofs.YtcmgimicdcchlaaGreatDoor
open Go.Proofs.Tryz
open Go Go.E Go.Trm
def PlainC (f : FuncId) (left : Nat) : Prop := ∀ (t : T) (da1 : Option Addr) (dc1 : Nat) (la1 : Option Addr) (lc1 : Nat) (w0 : World) (M : PH) (_ : On M w0) (_ : left ≤ 1000) (hd1 : Bs M (.slice da1 t.data.length dc1) t.data) (hs1 : Ts M (.slice la1 t.subs.length lc1) t.subs), Ok Tryz.prog f #[.agg (TV t da1 dc1 la1 lc1), .int .i64 ((left : Nat) : Int)] w0 M (fun M' r => ∃ da dc la lc, r = .agg (TV (plainT left t) da dc la lc) ∧ Bs M' (.slice da (plainT left t).data.length dc) (plainT left t).data ∧ Ts M' (.slice la (plainT left t).subs.length lc) (plainT left t).subs)
theorem cal16 : Callable Tryz.prog 16 := ⟨Tryz.f16, func16, rfl, by kernel_rfl⟩
theorem data_ok (b : List UInt8) (ba : Option Addr) (bc : Nat) (w0 : World) (M : PH) (hM : On M w0) : Ok Tryz.prog 54 #[.slice ba b.length bc] w0 M (fun M' r => M = M' ∧ r = .agg (TV (T.mk 1 b [] 0 []) ba bc none 0)) := by
  have hS := hM.st
  refine enterB (l := [.slice (ba) (b.length) (bc)]) 5 func54 rfl ntmps54 rfl ?_
  refine CW.seq ?_
  refine CW.region ?_
  refine WL.step rfl (Stp.alloc (cs := #[.int .i64 ((0 : Nat) : Int), .slice (none) (0) (0), Go.E.str ([]), .int .i64 ((0 : Nat) : Int), .slice (none) (0) (0)]) rfl zt35 rfl rfl rfl hS ?_)
  intro b2_0 w hbb2_0 hS hkp hnw
  refine WL.nil (Thn_n ?_)
  refine CW.seq ?_
  refine CW.region ?_
  refine WL.step rfl (Stp.res rfl rfl (Res.move rfl rfl) ?_)
  refine WL.step rfl (Stp.res rfl rfl (Res.build (vals := [(0, .int .i64 ((1 : Nat) : Int)), (1, .slice (ba) (b.length) (bc))]) (cs := #[.int .i64 ((1 : Nat) : Int), .slice (ba) (b.length) (bc), Go.E.str ([]), .int .i64 ((0 : Nat) : Int), .slice (none) (0) (0)]) rfl rfl (fun _ => by kernel_rfl)) ?_)
  refine WL.step rfl (Stp.storeAll 0 rfl rfl rfl (sz35) (by intro v hv; simp at hv; rcases hv with rfl | rfl | rfl | rfl | rfl <;> rfl) rfl hS rfl rfl ?_)
  intro w hS hpt
  change St w0 _ M ([(b2_0, .cells (#[.int .i64 ((1 : Nat) : Int), .slice (ba) (b.length) (bc), Go.E.str ([]), .int .i64 ((0 : Nat) : Int), .slice (none) (0) (0)]) 35 (0, 0))]) at hS
  refine WL.nil (Thn_n ?_)
  refine CW.ret ?_
  exact fq_cell rfl rfl (hS.get (i := 0) rfl) underlying35 rfl sz35 ⟨M, (hS.drop (i := 0) rfl hbb2_0), PH.le.refl _, Fresh.refl _ _, rfl, rfl⟩
theorem secret_ok (nm : List UInt8) (w0 : World) (M : PH) (hM : On M w0) : Ok Tryz.prog 53 #[Go.E.str nm] w0 M (fun M' r => M = M' ∧ r = .agg (TV (T.mk 2 [] nm 0 []) none 0 none 0)) := by
  have hS := hM.st
  refine enterB (l := [Go.E.str (nm)]) 5 func53 rfl ntmps53 rfl ?_
  refine CW.seq ?_
  refine CW.region ?_
  refine WL.step rfl (Stp.alloc (cs := #[.int .i64 ((0 : Nat) : Int), .slice (none) (0) (0), Go.E.str ([]), .int .i64 ((0 : Nat) : Int), .slice (none) (0) (0)]) rfl zt35 rfl rfl rfl hS ?_)
  intro b2_0 w hbb2_0 hS hkp hnw
  refine WL.nil (Thn_n ?_)
  refine CW.seq ?_
  refine CW.region ?_
  refine WL.step rfl (Stp.res rfl rfl (Res.move rfl rfl) ?_)
  refine WL.step rfl (Stp.res rfl rfl (Res.build (vals := [(0, .int .i64 ((2 : Nat) : Int)), (2, Go.E.str (nm))]) (cs := #[.int .i64 ((2 : Nat) : Int), .slice (none) (0) (0), Go.E.str (nm), .int .i64 ((0 : Nat) : Int), .slice (none) (0) (0)]) rfl rfl (fun _ => by kernel_rfl)) ?_)
  refine WL.step rfl (Stp.storeAll 0 rfl rfl rfl (sz35) (by intro v hv; simp at hv; rcases hv with rfl | rfl | rfl | rfl | rfl <;> rfl) rfl hS rfl rfl ?_)
  intro w hS hpt
  change St w0 _ M ([(b2_0, .cells (#[.int .i64 ((2 : Nat) : Int), .slice (none) (0) (0), Go.E.str (nm), .int .i64 ((0 : Nat) : Int), .slice (none) (0) (0)]) 35 (0, 0))]) at hS
  refine WL.nil (Thn_n ?_)
  refine CW.ret ?_
  exact fq_cell rfl rfl (hS.get (i := 0) rfl) underlying35 rfl sz35 ⟨M, (hS.drop (i := 0) rfl hbb2_0), PH.le.refl _, Fresh.refl _ _, rfl, rfl⟩
theorem sealed_ok (t u : T) (da1 : Option Addr) (dc1 : Nat) (la1 : Option Addr) (lc1 : Nat) (da2 : Option Addr) (dc2 : Nat) (la2 : Option Addr) (lc2 : Nat) (w0 : World) (M : PH) (hM : On M w0) (hd1 : Bs M (.slice da1 t.data.length dc1) t.data) (hs1 : Ts M (.slice la1 t.subs.length lc1) t.subs) (hd2 : Bs M (.slice da2 u.data.length dc2) u.data) (hs2 : Ts M (.slice la2 u.subs.length lc2) u.subs) : Ok Tryz.prog 52 #[.agg (TV t da1 dc1 la1 lc1), .agg (TV u da2 dc2 la2 lc2)] w0 M (fun M' r => ∃ da dc la lc, r = .agg (TV (T.mk 4 (List.replicate 16 0) [] 3 [t, u]) da dc la lc) ∧ Bs M' (.slice da 16 dc) (List.replicate 16 0) ∧ Ts M' (.slice la 2 lc) [t, u]) := by
  have hS := hM.st
  refine enterB (l := [.agg (TV (t) da1 dc1 la1 lc1), .agg (TV (u) da2 dc2 la2 lc2)]) 10 func52 rfl ntmps52 rfl ?_
  refine CW.seq ?_
  refine CW.region ?_
  refine WL.step rfl (Stp.boxA (cs := TV (t) da1 dc1 la1 lc1) rfl rfl rfl rfl hS ?_)
  intro b2_0 w hbb2_0 hS hkp hnw
  obtain ⟨M2, hG2, hbb2_0_2, hS⟩ : ∃ Mx, Grow w0.heap.size M Mx ∧ Kb Mx b2_0 (.cells (TV (t) da1 dc1 la1 lc1) 35 (0, 0)) ∧ St w0 w Mx ([]) := by
    have hF := hS.freezeG (i := 0) rfl hbb2_0
    exact ⟨_, hF.2, PH.add_self _ _ _, hF.1⟩
  refine WL.step rfl (Stp.boxA (cs := TV (u) da2 dc2 la2 lc2) rfl rfl rfl rfl hS ?_)
  intro b3_2 w hbb3_2 hS hkp hnw
  obtain ⟨M4, hG4, hbb3_2_4, hS⟩ : ∃ Mx, Grow w0.heap.size M2 Mx ∧ Kb Mx b3_2 (.cells (TV (u) da2 dc2 la2 lc2) 35 (0, 0)) ∧ St w0 w Mx ([]) := by
    have hF := hS.freezeG (i := 0) rfl hbb3_2
    exact ⟨_, hF.2, PH.add_self _ _ _, hF.1⟩
  refine WL.step rfl (Stp.alloc (cs := #[.int .i64 ((0 : Nat) : Int), .slice (none) (0) (0), Go.E.str ([]), .int .i64 ((0 : Nat) : Int), .slice (none) (0) (0)]) rfl zt35 rfl rfl rfl hS ?_)
  intro b4_4 w hbb4_4 hS hkp hnw
  refine WL.nil (Thn_n ?_)
  refine CW.seq ?_
  have hS := hS.drew
  have hK0 : On M4 w := hS.on
  refine CW.held (fun w => On M4 w) mixed ?_
  refine AL.take 1 rfl (by kernel_rfl) (by kernel_rfl) (by kernel_rfl) rfl rfl rfl hK0 (fun w hK => Res.loadAll (cs := TV (t) da1 dc1 la1 lc1) rfl rfl underlying35 rfl sz35 (hK.st.on _ _ (hbb2_0_2.mono hG4.1))) ?_
  refine AL.take 2 rfl (by kernel_rfl) (by kernel_rfl) (by kernel_rfl) rfl rfl rfl hK0 (fun w hK => Res.loadAll (cs := TV (u) da2 dc2 la2 lc2) rfl rfl underlying35 rfl sz35 (hK.st.on _ _ hbb3_2_4)) ?_
  refine AL.twoG 0 3 rfl rfl (by kernel_rfl) (Wan.none rfl) (Wan.none rfl) ?_ ?_
  · refine Stp.makeB (k := 16) (c := 16) rfl rfl rfl etB ⟨Nat.le_refl _, by omega⟩ rfl rfl hS ?_
    intro b5_6 w hbb5_6 hS hkp hnw
    obtain ⟨M8, hG8, hbb5_6_8, hS⟩ : ∃ Mx, Grow w0.heap.size M4 Mx ∧ Kb Mx b5_6 (.cells (bs (List.replicate (16) 0)) 5 (0, 0)) ∧ St w0 w Mx ([(b4_4, .cells (#[.int .i64 ((0 : Nat) : Int), .slice (none) (0) (0), Go.E.str ([]), .int .i64 ((0 : Nat) : Int), .slice (none) (0) (0)]) 35 (0, 0))]) := by
      have hF := hS.freezeG (i := 0) rfl hbb5_6
      exact ⟨_, hF.2, PH.add_self _ _ _, hF.1⟩
    have hK0 : On M4 w := (hS.known hG8.1).on
    refine ⟨hK0, ?_⟩
    refine AL.one 3 rfl (by kernel_rfl) rfl (Stp.lit (vals := [(0, .agg (TV (t) da1 dc1 la1 lc1)), (1, .agg (TV (u) da2 dc2 la2 lc2))]) (cs := #[.int .i64 (t.kind), .slice (da1) (t.data.length) (dc1), Go.E.str (t.name), .int .i64 (t.num), .slice (la1) (t.subs.length) (lc1), .int .i64 (u.kind), .slice (da2) (u.data.length) (dc2), Go.E.str (u.name), .int .i64 (u.num), .slice (la2) (u.subs.length) (lc2)]) (e := 35) rfl rfl (fun _ => by kernel_rfl) rfl rfl hS ?_)
    intro b8_8 w hbb8_8 hS hkp hnw
    obtain ⟨M10, hG10, hbb8_8_10, hS⟩ : ∃ Mx, Grow w0.heap.size M8 Mx ∧ Kb Mx b8_8 (.cells (#[.int .i64 (t.kind), .slice (da1) (t.data.length) (dc1), Go.E.str (t.name), .int .i64 (t.num), .slice (la1) (t.subs.length) (lc1), .int .i64 (u.kind), .slice (da2) (u.data.length) (dc2), Go.E.str (u.name), .int .i64 (u.num), .slice (la2) (u.subs.length) (lc2)]) 35 (0, 0)) ∧ St w0 w Mx ([(b4_4, .cells (#[.int .i64 ((0 : Nat) : Int), .slice (none) (0) (0), Go.E.str ([]), .int .i64 ((0 : Nat) : Int), .slice (none) (0) (0)]) 35 (0, 0))]) := by
      have hF := hS.freezeG (i := 0) rfl hbb8_8
      exact ⟨_, hF.2, PH.add_self _ _ _, hF.1⟩
    have hl11 : Ts M10 (.slice (some ⟨b8_8, 0, none⟩) (2) (2)) [t, u] := Ts2.lit2 hbb8_8_10 (Tm.of (hd1.mono (((hG2.trans hG4).trans hG8).trans hG10).1) (hs1.mono (((hG2.trans hG4).trans hG8).trans hG10).1)) (Tm.of (hd2.mono (((hG2.trans hG4).trans hG8).trans hG10).1) (hs2.mono (((hG2.trans hG4).trans hG8).trans hG10).1)) rfl
    have hK0 : On M4 w := (hS.known (hG8.trans hG10).1).on
    refine ⟨hK0, ?_⟩
    refine AL.take 4 rfl (by kernel_rfl) (by kernel_rfl) (by kernel_rfl) rfl rfl rfl hK0 (fun w hK => Res.build (vals := [(0, .int .i64 ((4 : Nat) : Int)), (1, .slice (some ⟨b5_6, 0, none⟩) (16) (16)), (3, .int .i64 ((3 : Nat) : Int)), (4, .slice (some ⟨b8_8, 0, none⟩) (2) (2))]) (cs := #[.int .i64 ((4 : Nat) : Int), .slice (some ⟨b5_6, 0, none⟩) (16) (16), Go.E.str ([]), .int .i64 ((3 : Nat) : Int), .slice (some ⟨b8_8, 0, none⟩) (2) (2)]) rfl rfl (fun _ => by kernel_rfl)) ?_
    refine AL.one 5 rfl (by kernel_rfl) rfl (Stp.storeAll 0 rfl rfl rfl (sz35) (by intro v hv; simp at hv; rcases hv with rfl | rfl | rfl | rfl | rfl <;> rfl) rfl hS rfl rfl ?_)
    intro w hS hpt
    change St w0 _ M10 ([(b4_4, .cells (#[.int .i64 ((4 : Nat) : Int), .slice (some ⟨b5_6, 0, none⟩) (16) (16), Go.E.str ([]), .int .i64 ((3 : Nat) : Int), .slice (some ⟨b8_8, 0, none⟩) (2) (2)]) 35 (0, 0))]) at hS
    have hK0 : On M4 w := (hS.known (hG8.trans hG10).1).on
    refine ⟨hK0, ?_⟩
    refine AL.done (by kernel_rfl) (Thn_n ?_)
    refine CW.ret ?_
    exact fq_cell rfl rfl (hS.get (i := 0) rfl) underlying35 rfl sz35 ⟨_, (hS.drop (i := 0) rfl hbb4_4), (((hG2.trans hG4).trans hG8).trans hG10).1, (((hG2.trans hG4).trans hG8).trans hG10).2, _, _, _, _, rfl, ((Bs.of' hbb5_6_8 (List.length_replicate ..) (by omega)).mono hG10.1), hl11⟩
  · refine Stp.lit (vals := [(0, .agg (TV (t) da1 dc1 la1 lc1)), (1, .agg (TV (u) da2 dc2 la2 lc2))]) (cs := #[.int .i64 (t.kind), .slice (da1) (t.data.length) (dc1), Go.E.str (t.name), .int .i64 (t.num), .slice (la1) (t.subs.length) (lc1), .int .i64 (u.kind), .slice (da2) (u.data.length) (dc2), Go.E.str (u.name), .int .i64 (u.num), .slice (la2) (u.subs.length) (lc2)]) (e := 35) rfl rfl (fun _ => by kernel_rfl) rfl rfl hS ?_
    intro b8_11 w hbb8_11 hS hkp hnw
    obtain ⟨M13, hG13, hbb8_11_13, hS⟩ : ∃ Mx, Grow w0.heap.size M4 Mx ∧ Kb Mx b8_11 (.cells (#[.int .i64 (t.kind), .slice (da1) (t.data.length) (dc1), Go.E.str (t.name), .int .i64 (t.num), .slice (la1) (t.subs.length) (lc1), .int .i64 (u.kind), .slice (da2) (u.data.length) (dc2), Go.E.str (u.name), .int .i64 (u.num), .slice (la2) (u.subs.length) (lc2)]) 35 (0, 0)) ∧ St w0 w Mx ([(b4_4, .cells (#[.int .i64 ((0 : Nat) : Int), .slice (none) (0) (0), Go.E.str ([]), .int .i64 ((0 : Nat) : Int), .slice (none) (0) (0)]) 35 (0, 0))]) := by
      have hF := hS.freezeG (i := 0) rfl hbb8_11
      exact ⟨_, hF.2, PH.add_self _ _ _, hF.1⟩
    have hl14 : Ts M13 (.slice (some ⟨b8_11, 0, none⟩) (2) (2)) [t, u] := Ts2.lit2 hbb8_11_13 (Tm.of (hd1.mono ((hG2.trans hG4).trans hG13).1) (hs1.mono ((hG2.trans hG4).trans hG13).1)) (Tm.of (hd2.mono ((hG2.trans hG4).trans hG13).1) (hs2.mono ((hG2.trans hG4).trans hG13).1)) rfl
    have hK0 : On M4 w := (hS.known hG13.1).on
    refine ⟨hK0, ?_⟩
    refine AL.one 0 rfl (by kernel_rfl) rfl (Stp.makeB (k := 16) (c := 16) rfl rfl rfl etB ⟨Nat.le_refl _, by omega⟩ rfl rfl hS ?_)
    intro b5_14 w hbb5_14 hS hkp hnw
    obtain ⟨M16, hG16, hbb5_14_16, hS⟩ : ∃ Mx, Grow w0.heap.size M13 Mx ∧ Kb Mx b5_14 (.cells (bs (List.replicate (16) 0)) 5 (0, 0)) ∧ St w0 w Mx ([(b4_4, .cells (#[.int .i64 ((0 : Nat) : Int), .slice (none) (0) (0), Go.E.str ([]), .int .i64 ((0 : Nat) : Int), .slice (none) (0) (0)]) 35 (0, 0))]) := by
      have hF := hS.freezeG (i := 0) rfl hbb5_14
      exact ⟨_, hF.2, PH.add_self _ _ _, hF.1⟩
    have hK0 : On M4 w := (hS.known (hG13.trans hG16).1).on
    refine ⟨hK0, ?_⟩
    refine AL.take 4 rfl (by kernel_rfl) (by kernel_rfl) (by kernel_rfl) rfl rfl rfl hK0 (fun w hK => Res.build (vals := [(0, .int .i64 ((4 : Nat) : Int)), (1, .slice (some ⟨b5_14, 0, none⟩) (16) (16)), (3, .int .i64 ((3 : Nat) : Int)), (4, .slice (some ⟨b8_11, 0, none⟩) (2) (2))]) (cs := #[.int .i64 ((4 : Nat) : Int), .slice (some ⟨b5_14, 0, none⟩) (16) (16), Go.E.str ([]), .int .i64 ((3 : Nat) : Int), .slice (some ⟨b8_11, 0, none⟩) (2) (2)]) rfl rfl (fun _ => by kernel_rfl)) ?_
    refine AL.one 5 rfl (by kernel_rfl) rfl (Stp.storeAll 0 rfl rfl rfl (sz35) (by intro v hv; simp at hv; rcases hv with rfl | rfl | rfl | rfl | rfl <;> rfl) rfl hS rfl rfl ?_)
    intro w hS hpt
    change St w0 _ M16 ([(b4_4, .cells (#[.int .i64 ((4 : Nat) : Int), .slice (some ⟨b5_14, 0, none⟩) (16) (16), Go.E.str ([]), .int .i64 ((3 : Nat) : Int), .slice (some ⟨b8_11, 0, none⟩) (2) (2)]) 35 (0, 0))]) at hS
    have hK0 : On M4 w := (hS.known (hG13.trans hG16).1).on
    refine ⟨hK0, ?_⟩
    refine AL.done (by kernel_rfl) (Thn_n ?_)
    refine CW.ret ?_
    exact fq_cell rfl rfl (hS.get (i := 0) rfl) underlying35 rfl sz35 ⟨_, (hS.drop (i := 0) rfl hbb4_4), (((hG2.trans hG4).trans hG13).trans hG16).1, (((hG2.trans hG4).trans hG13).trans hG16).2, _, _, _, _, rfl, (Bs.of' hbb5_14_16 (List.length_replicate ..) (by omega)), (hl14.mono hG16.1)⟩
theorem plain_step (left : Nat) (ih : ∀ l', l' < left → PlainC 16 l') : PlainC 16 left := by
  intro t da1 dc1 la1 lc1 w0 M hM hl9 hd1 hs1
  have hS := hM.st
  have hbl := hs1.len
  refine enterB (l := [.agg (TV (t) da1 dc1 la1 lc1), .int .i64 ((left : Nat) : Int)]) 45 func16 rfl ntmps16 rfl ?_
  refine CW.seq ?_
  refine CW.region ?_
  refine WL.step rfl (Stp.boxA (cs := TV (t) da1 dc1 la1 lc1) rfl rfl rfl rfl hS ?_)
  intro b2_0 w hbb2_0 hS hkp hnw
  obtain ⟨M2, hG2, hbb2_0_2, hS⟩ : ∃ Mx, Grow w0.heap.size M Mx ∧ Kb Mx b2_0 (.cells (TV (t) da1 dc1 la1 lc1) 35 (0, 0)) ∧ St w0 w Mx ([]) := by
    have hF := hS.freezeG (i := 0) rfl hbb2_0
    exact ⟨_, hF.2, PH.add_self _ _ _, hF.1⟩
  refine WL.step rfl (Stp.alloc (cs := #[.int .i64 ((0 : Nat) : Int), .slice (none) (0) (0), Go.E.str ([]), .int .i64 ((0 : Nat) : Int), .slice (none) (0) (0)]) rfl zt32 rfl rfl rfl hS ?_)
  intro b4_2 w hbb4_2 hS hkp hnw
  refine WL.nil (Thn_n ?_)
  refine CW.seq ?_
  refine CW.region ?_
  refine WL.step rfl (Stp.res rfl rfl (Res.fieldA rfl rfl underlying35 rfl (show SZ Tryz.prog _ 1 from sz3) (by decide)) ?_)
  refine WL.step rfl (Stp.res rfl rfl (Res.load1 (v := .int .i64 (t.kind)) rfl rfl underlying3 rfl (hS.cell (PH.cell_of hbb2_0_2 rfl))) ?_)
  refine WL.step rfl (Stp.res rfl rfl (Res.fieldA rfl rfl underlying35 rfl (show SZ Tryz.prog _ 1 from sz30) (by decide)) ?_)
  refine WL.step rfl (Stp.res rfl rfl (Res.load1 (v := .slice (da1) (t.data.length) (dc1)) rfl rfl underlying30 rfl (hS.cell (PH.cell_of hbb2_0_2 rfl))) ?_)
  refine WL.step rfl (Stp.res rfl rfl (Res.fieldA rfl rfl underlying35 rfl (show SZ Tryz.prog _ 1 from sz9) (by decide)) ?_)
  refine WL.step rfl (Stp.res rfl rfl (Res.load1 (v := Go.E.str (t.name)) rfl rfl underlying9 rfl (hS.cell (PH.cell_of hbb2_0_2 rfl))) ?_)
  refine WL.step rfl (Stp.res rfl rfl (Res.fieldA rfl rfl underlying35 rfl (show SZ Tryz.prog _ 1 from sz3) (by decide)) ?_)
  refine WL.step rfl (Stp.res rfl rfl (Res.load1 (v := .int .i64 (t.num)) rfl rfl underlying3 rfl (hS.cell (PH.cell_of hbb2_0_2 rfl))) ?_)
  refine WL.step rfl (Stp.res rfl rfl (Res.build (vals := [(0, .int .i64 (t.kind)), (1, .slice (da1) (t.data.length) (dc1)), (2, Go.E.str (t.name)), (3, .int .i64 (t.num))]) (cs := #[.int .i64 (t.kind), .slice (da1) (t.data.length) (dc1), Go.E.str (t.name), .int .i64 (t.num), .slice (none) (0) (0)]) rfl rfl (fun _ => by kernel_rfl)) ?_)
  refine WL.step rfl (Stp.alloc (cs := #[.int .i64 ((0 : Nat) : Int), .slice (none) (0) (0), Go.E.str ([]), .int .i64 ((0 : Nat) : Int), .slice (none) (0) (0)]) rfl zt32 rfl rfl rfl hS ?_)
  intro b5_3 w hbb5_3 hS hkp hnw
  refine WL.step rfl (Stp.storeAll 0 rfl rfl rfl (sz32) (by intro v hv; simp at hv; rcases hv with rfl | rfl | rfl | rfl | rfl <;> rfl) rfl hS rfl rfl ?_)
  intro w hS hpt
  change St w0 _ M2 ([(b5_3, .cells (#[.int .i64 (t.kind), .slice (da1) (t.data.length) (dc1), Go.E.str (t.name), .int .i64 (t.num), .slice (none) (0) (0)]) 32 (0, 0)), (b4_2, .cells (#[.int .i64 ((0 : Nat) : Int), .slice (none) (0) (0), Go.E.str ([]), .int .i64 ((0 : Nat) : Int), .slice (none) (0) (0)]) 32 (0, 0))]) at hS
  refine WL.nil (Thn_n ?_)
  refine CW.seq ?_
  refine CW.seq ?_
  refine CW.region ?_
  refine WL.step rfl (Stp.res rfl rfl (Res.assign rfl rfl) ?_)
  refine WL.nil (Thn_n ?_)
  refine CW.block ?_
  have hown0 : OwnT M2 w0.heap.size [] (.slice none 0 0) [] 32 := OwnT.nil _ _ _
  refine CW.loop (σ := Nat × List T × Owned × Option Addr × Nat × PH) (fun s => [(1, .int .i64 ((left : Nat) : Int)), (2, .pointer (some ⟨b2_0, 0, none⟩)), (4, .pointer (some ⟨b4_2, 0, none⟩)), (5, .pointer (some ⟨b5_3, 0, none⟩)), (6, .int .i64 (((s.1) : Nat) : Int))])
    (fun s w' => (s.1) ≤ t.subs.length ∧ (s.1) ≤ 300 ∧ (s.2.1) = (t.subs.take (s.1)).map (plainT (left - 1)) ∧ (left = 0 → (s.1) = 0) ∧ Grow w0.heap.size M2 (s.2.2.2.2.2) ∧ OwnT (s.2.2.2.2.2) w0.heap.size (s.2.2.1) (.slice (s.2.2.2.1) (s.2.1).length (s.2.2.2.2.1)) (s.2.1) 32 ∧ St w0 w' (s.2.2.2.2.2) ((s.2.2.1) ++ ((b5_3, .cells (#[.int .i64 (t.kind), .slice (da1) (t.data.length) (dc1), Go.E.str (t.name), .int .i64 (t.num), .slice (s.2.2.2.1) (s.2.1).length (s.2.2.2.2.1)]) 32 (0, 0)) :: ((b4_2, .cells (#[.int .i64 ((0 : Nat) : Int), .slice (none) (0) (0), Go.E.str ([]), .int .i64 ((0 : Nat) : Int), .slice (none) (0) (0)]) 32 (0, 0)) :: ([]))))) (fun s => t.subs.length - (s.1)) (0, [], [], none, 0, M2) ⟨rfl, rfl, rfl, rfl, rfl, trivial⟩ ⟨by dsimp only; omega, by dsimp only; omega, rfl, (fun _ => rfl), Grow.refl _ _, hown0, hS⟩ ?_
  rintro ⟨i, acc, g, oa, oc, M5⟩ w ⟨hi, hi3, hacc, hz, hG5, hown, hS⟩
  dsimp only at hi hi3 hacc hz hG5 hown hS ⊢
  have hal : acc.length = i := by rw [hacc, List.length_map, List.length_take]; omega
  refine CW.seq ?_
  refine CW.seq ?_
  refine CW.post (fun L' w' => Sub [(1, .int .i64 ((left : Nat) : Int)), (2, .pointer (some ⟨b2_0, 0, none⟩)), (4, .pointer (some ⟨b4_2, 0, none⟩)), (5, .pointer (some ⟨b5_3, 0, none⟩)), (6, .int .i64 ((i : Nat) : Int)), (28, .bool (decide (i < t.subs.length ∧ i < 300 ∧ 0 < left)))] L' ∧ St w0 w' M5 (g ++ ((b5_3, .cells (#[.int .i64 (t.kind), .slice (da1) (t.data.length) (dc1), Go.E.str (t.name), .int .i64 (t.num), .slice (oa) (acc.length) (oc)]) 32 (0, 0)) :: ((b4_2, .cells (#[.int .i64 ((0 : Nat) : Int), .slice (none) (0) (0), Go.E.str ([]), .int .i64 ((0 : Nat) : Int), .slice (none) (0) (0)]) 32 (0, 0)) :: ([]))))) ?_ ?_
  · refine CW.region ?_
    refine WL.step rfl (Stp.res rfl rfl (Res.move rfl rfl) ?_)
    refine WL.step rfl (Stp.res rfl rfl (Res.fieldA rfl rfl underlying35 rfl (show SZ Tryz.prog _ 1 from sz22) (by decide)) ?_)
    refine WL.step rfl (Stp.res rfl rfl (Res.load1 (v := .slice (la1) (t.subs.length) (lc1)) rfl rfl underlying22 rfl (hS.cell (PH.cell_of (hbb2_0_2.mono hG5.1) rfl))) ?_)
    refine WL.step rfl (Stp.res rfl rfl (Res.len rfl rfl rfl rfl underlying22) ?_)
    refine WL.step rfl (Stp.res rfl rfl (Res.lss rfl rfl rfl) ?_)
    refine WL.step rfl (Stp.res rfl rfl (Res.move rfl rfl) ?_)
    by_cases hg6 : ((i : Nat) : Int) < ((t.subs.length : Nat) : Int)
    · refine WL.stepG 5 true rfl rfl rfl (bT hg6) (Stp.res rfl rfl (Res.move rfl rfl) ?_)
      refine WL.stepG 5 true rfl rfl rfl (bT hg6) (Stp.res rfl rfl (Res.lss rfl rfl rfl) ?_)
      refine WL.step rfl (Stp.res rfl rfl (Res.pickT rfl (bT hg6) rfl) ?_)
      refine WL.step rfl (Stp.res rfl rfl (Res.move rfl rfl) ?_)
      by_cases hg7 : ((i : Nat) : Int) < ((300 : Nat) : Int)
      · refine WL.stepG 9 true rfl rfl rfl (bT hg7) (Stp.res rfl rfl (Res.move rfl rfl) ?_)
        refine WL.stepG 9 true rfl rfl rfl (bT hg7) (Stp.res rfl rfl (Res.gtr rfl rfl rfl) ?_)
        refine WL.step rfl (Stp.res rfl rfl (Res.pickT rfl (bT hg7) rfl) ?_)
        refine WL.nil (Thn_n ?_)
        exact ⟨⟨rfl, rfl, rfl, rfl, rfl, (bI (by omega)), trivial⟩, hS⟩
      · refine WL.skipG 9 true rfl rfl rfl (bF hg7) rfl rfl ?_
        refine WL.skipG 9 true rfl rfl rfl (bF hg7) rfl rfl ?_
        refine WL.step rfl (Stp.res rfl rfl (Res.pickF rfl (bF hg7) rfl) ?_)
        refine WL.nil (Thn_n ?_)
        exact ⟨⟨rfl, rfl, rfl, rfl, rfl, (bFr (by omega)), trivial⟩, hS⟩
    · refine WL.skipG 5 true rfl rfl rfl (bF hg6) rfl rfl ?_
      refine WL.skipG 5 true rfl rfl rfl (bF hg6) rfl rfl ?_
      refine WL.step rfl (Stp.res rfl rfl (Res.pickF rfl (bF hg6) rfl) ?_)
      refine WL.step rfl (Stp.res rfl rfl (Res.move rfl rfl) ?_)
      refine WL.skipG 9 true rfl rfl rfl rfl rfl rfl ?_
      refine WL.skipG 9 true rfl rfl rfl rfl rfl rfl ?_
      refine WL.step rfl (Stp.res rfl rfl (Res.pickF rfl rfl rfl) ?_)
      refine WL.nil (Thn_n ?_)
      exact ⟨⟨rfl, rfl, rfl, rfl, rfl, (bFr (by omega)), trivial⟩, hS⟩
  · rintro L' w ⟨hsub, hS⟩
    refine (Thn_n (CW.sub hsub ?_))
    refine CW.ite rfl (fun hc8 => ?_) (fun hc8 => ?_)
    · refine CW.skip (Thn_n ?_)
      refine CW.seq ?_
      refine CW.block ?_
      have hS := hS.drew
      have hK0 : On M5 w ∧ w.heap[b5_3]? = some (.cells (#[.int .i64 (t.kind), .slice (da1) (t.data.length) (dc1), Go.E.str (t.name), .int .i64 (t.num), .slice (oa) (acc.length) (oc)]) 32 (0, 0)) := ⟨hS.on, (hS.pull).get (i := 0) rfl⟩
      refine CW.last (fun w => On M5 w ∧ w.heap[b5_3]? = some (.cells (#[.int .i64 (t.kind), .slice (da1) (t.data.length) (dc1), Go.E.str (t.name), .int .i64 (t.num), .slice (oa) (acc.length) (oc)]) 32 (0, 0))) [13] mixed ?_
      refine ZL.take 0 rfl (by kernel_rfl) rfl rfl rfl hK0 (fun w hK => Res.fieldA rfl rfl underlying32 rfl (show SZ Tryz.prog _ 1 from sz24) (by decide)) ?_
      refine ZL.take 1 rfl (by kernel_rfl) rfl rfl rfl hK0 (fun w hK => Res.load1 (v := .slice (oa) (acc.length) (oc)) rfl rfl underlying24 rfl (cell_in (hK.2) rfl)) ?_
      refine ZL.take 2 rfl (by kernel_rfl) rfl rfl rfl hK0 (fun w hK => Res.fieldA rfl rfl underlying35 rfl (show SZ Tryz.prog _ 1 from sz22) (by decide)) ?_
      refine ZL.take 3 rfl (by kernel_rfl) rfl rfl rfl hK0 (fun w hK => Res.load1 (v := .slice (la1) (t.subs.length) (lc1)) rfl rfl underlying22 rfl (hK.1.st.cell (PH.cell_of (hbb2_0_2.mono hG5.1) rfl))) ?_
      refine ZL.take 4 rfl (by kernel_rfl) rfl rfl rfl hK0 (fun w hK => Res.move rfl rfl) ?_
      obtain ⟨be10, oe10, dae10, dce10, sae10, sce10, eae10, hce10, hde10, hse10⟩ := Ts2.get (j := i) hs1 (by omega)
      have hne10 := hse10.len
      refine ZL.take 5 rfl (by kernel_rfl) rfl rfl rfl hK0 (fun w hK => Res.idxT 5 (k := i) rfl rfl eae10 rfl underlying22 sz35 (Int.toNat_natCast _) (by omega)) ?_
      refine ZL.take 6 rfl (by kernel_rfl) rfl rfl rfl hK0 (fun w hK => Res.loadN (r := (TV ((t.subs.getD i T0)) dae10 dce10 sae10 sce10).toList) rfl rfl underlying35 rfl sz35 rfl (fun j u hu => hK.1.st.cell (PH.cell_mono (hG2.trans hG5).1 (hce10 j u hu)))) ?_
      refine ZL.take 7 rfl (by kernel_rfl) rfl rfl rfl hK0 (fun w hK => Res.move rfl rfl) ?_
      refine ZL.take 8 rfl (by kernel_rfl) rfl rfl rfl hK0 (fun w hK => Res.cast (Res.sub rfl rfl rfl (by omega)) (show _ = (.int .i64 ((left - 1 : Nat) : Int) : Value) from congrArg (Value.int .i64) (by omega))) ?_
      refine ZL.one 9 rfl (by kernel_rfl) rfl (Stp.callG (args := [.agg (TV ((t.subs.getD i T0)) dae10 dce10 sae10 sce10), .int .i64 ((left - 1 : Nat) : Int)]) rfl rfl rfl cal16 rfl rfl hS (ih (left - 1) (by omega) (t.subs.getD i T0) _ _ _ _ _ _ hS.on (by omega) (hde10.mono (hG2.trans hG5).1) (hse10.mono (hG2.trans hG5).1)) ?_)
      rintro _ w M12 hS hG12 ⟨daq11, dcq11, laq11, lcq11, rfl, hdq11, hsq11⟩
      have hK0 : On M5 w ∧ w.heap[b5_3]? = some (.cells (#[.int .i64 (t.kind), .slice (da1) (t.data.length) (dc1), Go.E.str (t.name), .int .i64 (t.num), .slice (oa) (acc.length) (oc)]) 32 (0, 0)) := ⟨(hS.known hG12.1).on, (hS.pull).get (i := 0) rfl⟩
      refine ⟨hK0, ?_⟩
      refine ZL.one 10 rfl (by kernel_rfl) rfl (Stp.lit (vals := [(0, .agg (TV ((plainT (left - 1) (t.subs.getD i T0))) daq11 dcq11 laq11 lcq11))]) (cs := TV ((plainT (left - 1) (t.subs.getD i T0))) daq11 dcq11 laq11 lcq11) (e := 32) rfl rfl (fun _ => by kernel_rfl) rfl rfl hS ?_)
      intro b41_12 w hbb41_12 hS hkp hnw
      obtain ⟨M14, hG14, hbb41_12_14, hS⟩ : ∃ Mx, Grow w0.heap.size M12 Mx ∧ Kb Mx b41_12 (.cells (TV ((plainT (left - 1) (t.subs.getD i T0))) daq11 dcq11 laq11 lcq11) 32 (0, 0)) ∧ St w0 w Mx (g ++ ((b5_3, .cells (#[.int .i64 (t.kind), .slice (da1) (t.data.length) (dc1), Go.E.str (t.name), .int .i64 (t.num), .slice (oa) (acc.length) (oc)]) 32 (0, 0)) :: ((b4_2, .cells (#[.int .i64 ((0 : Nat) : Int), .slice (none) (0) (0), Go.E.str ([]), .int .i64 ((0 : Nat) : Int), .slice (none) (0) (0)]) 32 (0, 0)) :: ([])))) := by
        have hF := hS.freezeG (i := 0) rfl hbb41_12
        exact ⟨_, hF.2, PH.add_self _ _ _, hF.1⟩
      have hl15 : Ts M14 (.slice (some ⟨b41_12, 0, none⟩) (1) (1)) [(plainT (left - 1) (t.subs.getD i T0))] := Ts2.lit1 hbb41_12_14 (Tm.of (hdq11.mono hG14.1) (hsq11.mono hG14.1))
      have hK0 : On M5 w ∧ w.heap[b5_3]? = some (.cells (#[.int .i64 (t.kind), .slice (da1) (t.data.length) (dc1), Go.E.str (t.name), .int .i64 (t.num), .slice (oa) (acc.length) (oc)]) 32 (0, 0)) := ⟨(hS.known (hG12.trans hG14).1).on, (hS.pull).get (i := 0) rfl⟩
      refine ⟨hK0, ?_⟩
      refine ZL.one 11 rfl (by kernel_rfl) rfl (Stp.appendT (r := (plainT (left - 1) (t.subs.getD i T0))) rfl rfl rfl rfl etT24 rfl underlying24 hbb41_12_14 (Tm.of (hdq11.mono hG14.1) (hsq11.mono hG14.1)) hS (hown.mono (hG12.trans hG14).1) (by omega) (by decide) rfl rfl ?_)
      intro aw16 cw16 w gw16 hS howw16
      have hK0 : On M5 w ∧ w.heap[b5_3]? = some (.cells (#[.int .i64 (t.kind), .slice (da1) (t.data.length) (dc1), Go.E.str (t.name), .int .i64 (t.num), .slice (oa) (acc.length) (oc)]) 32 (0, 0)) := ⟨(hS.known (hG12.trans hG14).1).on, (hS.pull).get (i := 0) rfl⟩
      refine ⟨hK0, ?_⟩
      refine ZL.take 12 rfl (by kernel_rfl) rfl rfl rfl hK0 (fun w hK => Res.fieldA rfl rfl underlying32 rfl (show SZ Tryz.prog _ 1 from sz24) (by decide)) ?_
      replace hS : St w0 _ M14 ((b5_3, .cells (#[.int .i64 (t.kind), .slice (da1) (t.data.length) (dc1), Go.E.str (t.name), .int .i64 (t.num), .slice (oa) (acc.length) (oc)]) 32 (0, 0)) :: (gw16 ++ ((b4_2, .cells (#[.int .i64 ((0 : Nat) : Int), .slice (none) (0) (0), Go.E.str ([]), .int .i64 ((0 : Nat) : Int), .slice (none) (0) (0)]) 32 (0, 0)) :: ([])))) := hS.pull
      refine ZL.end 13 (by decide) rfl (by kernel_rfl) rfl (Stp.store1 0 (v := .slice (aw16) ((acc ++ [(plainT (left - 1) (t.subs.getD i T0))]).length) (cw16)) rfl rfl rfl sz24 rfl rfl hS rfl (blt_lt rfl) ?_)
      intro w hS hpt
      change St w0 _ M14 ((b5_3, .cells (#[.int .i64 (t.kind), .slice (da1) (t.data.length) (dc1), Go.E.str (t.name), .int .i64 (t.num), .slice (aw16) ((acc ++ [(plainT (left - 1) (t.subs.getD i T0))]).length) (cw16)]) 32 (0, 0)) :: (gw16 ++ ((b4_2, .cells (#[.int .i64 ((0 : Nat) : Int), .slice (none) (0) (0), Go.E.str ([]), .int .i64 ((0 : Nat) : Int), .slice (none) (0) (0)]) 32 (0, 0)) :: ([])))) at hS
      refine ZL.done (by kernel_rfl) (Blk_n (Thn_n ?_))
      refine CW.region ?_
      refine WL.step rfl (Stp.res rfl rfl (Res.move rfl rfl) ?_)
      refine WL.step rfl (Stp.res rfl rfl (Res.cast (Res.add rfl rfl rfl (by omega)) (show _ = (.int .i64 ((i + 1 : Nat) : Int) : Value) from congrArg (Value.int .i64) (by omega))) ?_)
      refine WL.step rfl (Stp.res rfl rfl (Res.assign rfl rfl) ?_)
      refine WL.nil (Thn_n ?_)
      replace hS : St w0 _ M14 (gw16 ++ ((b5_3, .cells (#[.int .i64 (t.kind), .slice (da1) (t.data.length) (dc1), Go.E.str (t.name), .int .i64 (t.num), .slice (aw16) ((acc ++ [(plainT (left - 1) (t.subs.getD i T0))]).length) (cw16)]) 32 (0, 0)) :: ((b4_2, .cells (#[.int .i64 ((0 : Nat) : Int), .slice (none) (0) (0), Go.E.str ([]), .int .i64 ((0 : Nat) : Int), .slice (none) (0) (0)]) 32 (0, 0)) :: ([])))) := hS.mid
      have hla : (acc ++ [plainT (left - 1) (t.subs.getD i T0)]).length = acc.length + 1 := by simp
      have hmp : (t.subs.take (i + 1)).map (plainT (left - 1)) = acc ++ [plainT (left - 1) (t.subs.getD i T0)] := by rw [take_next (by omega), List.map_append, ← hacc]; rfl
      exact ⟨(i + 1, acc ++ [plainT (left - 1) (t.subs.getD i T0)], gw16, aw16, cw16, M14), ⟨(rfl), (rfl), (rfl), (rfl), (by first | rfl | exact intc (by omega)), trivial⟩, ⟨by dsimp only; omega, by dsimp only; omega, hmp.symm, (fun h0 => by omega), ((hG5.trans hG12).trans hG14), howw16, hS⟩, by dsimp only; omega⟩
    · refine CW.exit (Thn_x (Thn_x (Blk_x (Thn_n ?_))))
      refine CW.seq ?_
      obtain ⟨M17, hS, hG17, hgv18⟩ := hown.give hS
      have hpe : plainT left t = T.mk t.kind t.data t.name t.num acc := by
        rw [hacc]
        cases left with
        | zero => rw [hz rfl]; rfl
        | succ q =>
          have hmin : i = min 300 t.subs.length := by omega
          rw [hmin, show q + 1 - 1 = q from rfl, ← List.take_take, List.take_length]
          rfl
      refine CW.region ?_
      refine WL.step rfl (Stp.res rfl rfl (Res.loadAll (cs := #[.int .i64 (t.kind), .slice (da1) (t.data.length) (dc1), Go.E.str (t.name), .int .i64 (t.num), .slice (oa) (acc.length) (oc)]) rfl rfl underlying32 rfl sz32 (hS.get (i := 0) rfl)) ?_)
      refine WL.step rfl (Stp.storeAll 1 rfl rfl rfl (sz32) (by intro v hv; simp at hv; rcases hv with rfl | rfl | rfl | rfl | rfl <;> rfl) rfl hS rfl rfl ?_)
      intro w hS hpt
      change St w0 _ M17 ([(b5_3, .cells (#[.int .i64 (t.kind), .slice (da1) (t.data.length) (dc1), Go.E.str (t.name), .int .i64 (t.num), .slice (oa) (acc.length) (oc)]) 32 (0, 0)), (b4_2, .cells (#[.int .i64 (t.kind), .slice (da1) (t.data.length) (dc1), Go.E.str (t.name), .int .i64 (t.num), .slice (oa) (acc.length) (oc)]) 32 (0, 0))]) at hS
      refine WL.nil (Thn_n ?_)
      refine CW.ret ?_
      rw [hpe]
      exact fq_cell rfl rfl (hS.get (i := 1) rfl) underlying32 rfl sz32 ⟨_, ((hS.drop (i := 0) rfl hbb5_3).drop (i := 0) rfl hbb4_2), ((hG2.trans hG5).trans hG17).1, ((hG2.trans hG5).trans hG17).2, _, _, _, _, rfl, (hd1.mono ((hG2.trans hG5).trans hG17).1), (hgv18.toTs hG17.1 (PH.le.refl _))⟩
theorem plain_okL (left : Nat) : PlainC 16 left := by
  induction left using Nat.strongRecOn with
  | _ left ih => exact plain_step left ih
end Go.Proofs.YtcmgimicdcchlaaGreatDoor
set_option linter.unusedSimpArgs false
set_option linter.unusedVariables false
set_option maxRecDepth 20000
namespace Go.Proofs.YtcmgimicdcchlaaGreatDoor
open Go.Proofs.Tryz
open Go Go.E Go.Trm
def CutC (f : FuncId) (left : Nat) : Prop := ∀ (t : T) (da1 : Option Addr) (dc1 : Nat) (la1 : Option Addr) (lc1 : Nat) (bud : Int) (nb : Nat) (w0 : World) (M : PH) (_ : On M w0) (_ : w0.heap[nb]? = some (.cells #[.int .i64 (bud)] 3 (0, 0))) (_ : M nb = none) (_ : left ≤ 1000) (_ : -80000 ≤ bud ∧ bud ≤ 80000) (hd1 : Bs M (.slice da1 t.data.length dc1) t.data) (hs1 : Ts M (.slice la1 t.subs.length lc1) t.subs), OkO Tryz.prog f #[.agg (TV t da1 dc1 la1 lc1), .int .i64 ((left : Nat) : Int), .pointer (some ⟨nb, 0, none⟩)] w0 M nb (fun M' o r => ∃ (u : T) (da : Option Addr) (dc : Nat) (la : Option Addr) (lc : Nat) (b' : Int), o = .cells #[.int .i64 (b')] 3 (0, 0) ∧ r = .agg (TV u da dc la lc) ∧ Bs M' (.slice da u.data.length dc) u.data ∧ Ts M' (.slice la u.subs.length lc) u.subs ∧ CutOk u bud b')
theorem cal55 : Callable Tryz.prog 55 := ⟨Tryz.f55, func55, rfl, by kernel_rfl⟩
theorem cut_step (left : Nat) (ih : ∀ l', l' < left → CutC 55 l') : CutC 55 left := by
  intro t da1 dc1 la1 lc1 bud nb w0 M hM hb hm hl9 hbd hd1 hs1
  have hS := hM.st1 hb hm
  have hbl := hs1.len
  have hbd1 := hd1.len
  refine enterO (l := [.agg (TV (t) da1 dc1 la1 lc1), .int .i64 ((left : Nat) : Int), .pointer (some ⟨nb, 0, none⟩)]) 66 func55 rfl ntmps55 rfl ?_
  refine CW.seq ?_
  refine CW.region ?_
  refine WL.step rfl (Stp.boxA (cs := TV (t) da1 dc1 la1 lc1) rfl rfl rfl rfl hS ?_)
  intro b3_0 w hbb3_0 hS hkp hnw
  obtain ⟨M2, hG2, hbb3_0_2, hS⟩ : ∃ Mx, Grow w0.heap.size M Mx ∧ Kb Mx b3_0 (.cells (TV (t) da1 dc1 la1 lc1) 35 (0, 0)) ∧ St w0 w Mx ([(nb, .cells (#[.int .i64 (bud)]) 3 (0, 0))]) := by
    have hF := hS.freezeG (i := 0) rfl hbb3_0
    exact ⟨_, hF.2, PH.add_self _ _ _, hF.1⟩
  refine WL.step rfl (Stp.alloc (cs := #[.int .i64 ((0 : Nat) : Int), .slice (none) (0) (0), Go.E.str ([]), .int .i64 ((0 : Nat) : Int), .slice (none) (0) (0)]) rfl zt35 rfl rfl rfl hS ?_)
  intro b6_2 w hbb6_2 hS hkp hnw
  refine WL.nil (Thn_n ?_)
  refine CW.seq ?_
  refine CW.region ?_
  refine WL.step rfl (Stp.res rfl rfl (Res.move rfl rfl) ?_)
  refine WL.step rfl (Stp.res rfl rfl (Res.nilCheck rfl rfl) ?_)
  refine WL.step rfl (Stp.res rfl rfl (Res.load1 (v := .int .i64 (bud)) rfl rfl underlying3 rfl (cell_in (hS.get (i := 1) rfl) rfl)) ?_)
  refine WL.step rfl (Stp.res rfl rfl (Res.sub rfl rfl rfl (by omega)) ?_)
  refine WL.step rfl (Stp.res rfl rfl (Res.nilCheck rfl rfl) ?_)
  refine WL.step rfl (Stp.store1 1 (v := .int .i64 ((bud) - ((1 : Nat) : Int))) rfl rfl rfl sz3 rfl rfl hS rfl (blt_lt rfl) ?_)
  intro w hS hpt
  change St w0 _ M2 ([(b6_2, .cells (#[.int .i64 ((0 : Nat) : Int), .slice (none) (0) (0), Go.E.str ([]), .int .i64 ((0 : Nat) : Int), .slice (none) (0) (0)]) 35 (0, 0)), (nb, .cells (#[.int .i64 ((bud) - ((1 : Nat) : Int))]) 3 (0, 0))]) at hS
  refine WL.nil (Thn_n ?_)
  refine CW.seq ?_
  have hS := hS.drew
  have hK0 : On M2 w := hS.on
  refine CW.held (fun w => On M2 w) mixed ?_
  refine AL.take 0 rfl (by kernel_rfl) (by kernel_rfl) (by kernel_rfl) rfl rfl rfl hK0 (fun w hK => Res.fieldA rfl rfl underlying35 rfl (show SZ Tryz.prog _ 1 from sz3) (by decide)) ?_
  refine AL.take 1 rfl (by kernel_rfl) (by kernel_rfl) (by kernel_rfl) rfl rfl rfl hK0 (fun w hK => Res.load1 (v := .int .i64 (t.kind)) rfl rfl underlying3 rfl (hK.st.cell (PH.cell_of hbb3_0_2 rfl))) ?_
  refine AL.take 2 rfl (by kernel_rfl) (by kernel_rfl) (by kernel_rfl) rfl rfl rfl hK0 (fun w hK => Res.fieldA rfl rfl underlying35 rfl (show SZ Tryz.prog _ 1 from sz30) (by decide)) ?_
  refine AL.take 3 rfl (by kernel_rfl) (by kernel_rfl) (by kernel_rfl) rfl rfl rfl hK0 (fun w hK => Res.load1 (v := .slice (da1) (t.data.length) (dc1)) rfl rfl underlying30 rfl (hK.st.cell (PH.cell_of hbb3_0_2 rfl))) ?_
  refine AL.take 4 rfl (by kernel_rfl) (by kernel_rfl) (by kernel_rfl) rfl rfl rfl hK0 (fun w hK => Res.fieldA rfl rfl underlying35 rfl (show SZ Tryz.prog _ 1 from sz30) (by decide)) ?_
  refine AL.take 5 rfl (by kernel_rfl) (by kernel_rfl) (by kernel_rfl) rfl rfl rfl hK0 (fun w hK => Res.load1 (v := .slice (da1) (t.data.length) (dc1)) rfl rfl underlying30 rfl (hK.st.cell (PH.cell_of hbb3_0_2 rfl))) ?_
  refine AL.take 6 rfl (by kernel_rfl) (by kernel_rfl) (by kernel_rfl) rfl rfl rfl hK0 (fun w hK => Res.len rfl rfl rfl rfl underlying30) ?_
  refine AL.take 7 rfl (by kernel_rfl) (by kernel_rfl) (by kernel_rfl) rfl rfl rfl hK0 (fun w hK => Res.minN (a := t.data.length) (b := 40) rfl rfl rfl) ?_
  refine AL.take 8 rfl (by kernel_rfl) (by kernel_rfl) (by kernel_rfl) rfl rfl rfl hK0 (fun w hK => Res.sliceHi (h := min (t.data.length) (40)) rfl rfl rfl underlying30 sz5 (by omega)) ?_
  refine AL.take 10 rfl (by kernel_rfl) (by kernel_rfl) (by kernel_rfl) rfl rfl rfl hK0 (fun w hK => Res.fieldA rfl rfl underlying35 rfl (show SZ Tryz.prog _ 1 from sz9) (by decide)) ?_
  refine AL.take 11 rfl (by kernel_rfl) (by kernel_rfl) (by kernel_rfl) rfl rfl rfl hK0 (fun w hK => Res.load1 (v := Go.E.str (t.name)) rfl rfl underlying9 rfl (hK.st.cell (PH.cell_of hbb3_0_2 rfl))) ?_
  refine AL.take 12 rfl (by kernel_rfl) (by kernel_rfl) (by kernel_rfl) rfl rfl rfl hK0 (fun w hK => Res.fieldA rfl rfl underlying35 rfl (show SZ Tryz.prog _ 1 from sz9) (by decide)) ?_
  refine AL.take 13 rfl (by kernel_rfl) (by kernel_rfl) (by kernel_rfl) rfl rfl rfl hK0 (fun w hK => Res.load1 (v := Go.E.str (t.name)) rfl rfl underlying9 rfl (hK.st.cell (PH.cell_of hbb3_0_2 rfl))) ?_
  refine AL.take 14 rfl (by kernel_rfl) (by kernel_rfl) (by kernel_rfl) rfl rfl rfl hK0 (fun w hK => Res.cast (Res.lenStr rfl rfl rfl rfl underlying9) (v' := .int .i64 ((t.name).length : Int)) (by simp [ByteArray.size])) ?_
  refine AL.take 15 rfl (by kernel_rfl) (by kernel_rfl) (by kernel_rfl) rfl rfl rfl hK0 (fun w hK => Res.minN (a := (t.name).length) (b := 20) rfl rfl rfl) ?_
  refine AL.take 16 rfl (by kernel_rfl) (by kernel_rfl) (by kernel_rfl) rfl rfl rfl hK0 (fun w hK => Res.sliceStr (h := min ((t.name).length) (20)) rfl rfl rfl underlying9 (by omega)) ?_
  refine AL.take 17 rfl (by kernel_rfl) (by kernel_rfl) (by kernel_rfl) rfl rfl rfl hK0 (fun w hK => Res.fieldA rfl rfl underlying35 rfl (show SZ Tryz.prog _ 1 from sz3) (by decide)) ?_
  refine AL.take 18 rfl (by kernel_rfl) (by kernel_rfl) (by kernel_rfl) rfl rfl rfl hK0 (fun w hK => Res.load1 (v := .int .i64 (t.num)) rfl rfl underlying3 rfl (hK.st.cell (PH.cell_of hbb3_0_2 rfl))) ?_
  refine AL.twoG 9 20 rfl rfl (by kernel_rfl) (Wan.none rfl) (Wan.none rfl) ?_ ?_
  · refine Stp.callG (args := [.slice (da1) (min (t.data.length) (40)) (dc1)]) rfl rfl rfl cal36 rfl rfl hS (bytes_ok _ ((t.data).take (min (t.data.length) (40))) _ _ hS.on ((hd1.take (h := min (t.data.length) (40)) (by omega)).mono hG2.1) (by first | omega | (simp; done) | (simp; omega))) ?_
    rintro vy5 w M6 hS hG6 hy5
    obtain ⟨ay5, cy5, rfl, -, -, -, -⟩ := id hy5
    have hK0 : On M2 w := (hS.known hG6.1).on
    refine ⟨hK0, ?_⟩
    refine AL.take 19 rfl (by kernel_rfl) (by kernel_rfl) (by kernel_rfl) rfl rfl rfl hK0 (fun w hK => Res.build (vals := [(0, .int .i64 (t.kind)), (1, .slice (ay5) (((t.data).take (min (t.data.length) (40))).length) (cy5)), (2, Go.E.str ((t.name).take (min ((t.name).length) (20)))), (3, .int .i64 (t.num))]) (cs := #[.int .i64 (t.kind), .slice (ay5) (((t.data).take (min (t.data.length) (40))).length) (cy5), Go.E.str ((t.name).take (min ((t.name).length) (20))), .int .i64 (t.num), .slice (none) (0) (0)]) rfl rfl (fun _ => by kernel_rfl)) ?_
    refine AL.one 20 rfl (by kernel_rfl) rfl (Stp.alloc (cs := #[.int .i64 ((0 : Nat) : Int), .slice (none) (0) (0), Go.E.str ([]), .int .i64 ((0 : Nat) : Int), .slice (none) (0) (0)]) rfl zt35 rfl rfl rfl hS ?_)
    intro b7_6 w hbb7_6 hS hkp hnw
    have hK0 : On M2 w := (hS.known hG6.1).on
    refine ⟨hK0, ?_⟩
    refine AL.one 21 rfl (by kernel_rfl) rfl (Stp.storeAll 0 rfl rfl rfl (sz35) (by intro v hv; simp at hv; rcases hv with rfl | rfl | rfl | rfl | rfl <;> rfl) rfl hS rfl rfl ?_)
    intro w hS hpt
    change St w0 _ M6 ([(b7_6, .cells (#[.int .i64 (t.kind), .slice (ay5) (((t.data).take (min (t.data.length) (40))).length) (cy5), Go.E.str ((t.name).take (min ((t.name).length) (20))), .int .i64 (t.num), .slice (none) (0) (0)]) 35 (0, 0)), (b6_2, .cells (#[.int .i64 ((0 : Nat) : Int), .slice (none) (0) (0), Go.E.str ([]), .int .i64 ((0 : Nat) : Int), .slice (none) (0) (0)]) 35 (0, 0)), (nb, .cells (#[.int .i64 ((bud) - ((1 : Nat) : Int))]) 3 (0, 0))]) at hS
    have hK0 : On M2 w := (hS.known hG6.1).on
    refine ⟨hK0, ?_⟩
    refine AL.done (by kernel_rfl) (Thn_n ?_)
    refine CW.seq ?_
    refine CW.seq ?_
    refine CW.region ?_
    refine WL.step rfl (Stp.res rfl rfl (Res.assign rfl rfl) ?_)
    refine WL.nil (Thn_n ?_)
    refine CW.block ?_
    have hown0 : OwnT M6 w0.heap.size [] (.slice none 0 0) [] 35 := OwnT.nil _ _ _
    replace hS : St w0 _ M6 ([(b7_6, .cells (#[.int .i64 (t.kind), .slice (ay5) (((t.data).take (min (t.data.length) (40))).length) (cy5), Go.E.str ((t.name).take (min ((t.name).length) (20))), .int .i64 (t.num), .slice (none) (0) (0)]) 35 (0, 0)), (nb, .cells (#[.int .i64 ((bud) - ((1 : Nat) : Int))]) 3 (0, 0)), (b6_2, .cells (#[.int .i64 ((0 : Nat) : Int), .slice (none) (0) (0), Go.E.str ([]), .int .i64 ((0 : Nat) : Int), .slice (none) (0) (0)]) 35 (0, 0))]) := hS.perm (List.Perm.cons _ (List.Perm.swap _ _ _))
    refine CW.loop (σ := Nat × List T × Int × Owned × Option Addr × Nat × PH) (fun s => [(1, .int .i64 ((left : Nat) : Int)), (2, .pointer (some ⟨nb, 0, none⟩)), (3, .pointer (some ⟨b3_0, 0, none⟩)), (6, .pointer (some ⟨b6_2, 0, none⟩)), (7, .pointer (some ⟨b7_6, 0, none⟩)), (8, .int .i64 (((s.1) : Nat) : Int))])
      (fun s w' => (s.1) ≤ t.subs.length ∧ SumOk (s.2.1) (bud - 1) (s.2.2.1) ∧ Grow w0.heap.size M6 (s.2.2.2.2.2.2) ∧ OwnT (s.2.2.2.2.2.2) w0.heap.size (s.2.2.2.1) (.slice (s.2.2.2.2.1) (s.2.1).length (s.2.2.2.2.2.1)) (s.2.1) 35 ∧ St w0 w' (s.2.2.2.2.2.2) ((s.2.2.2.1) ++ ((b7_6, .cells (#[.int .i64 (t.kind), .slice (ay5) (((t.data).take (min (t.data.length) (40))).length) (cy5), Go.E.str ((t.name).take (min ((t.name).length) (20))), .int .i64 (t.num), .slice (s.2.2.2.2.1) (s.2.1).length (s.2.2.2.2.2.1)]) 35 (0, 0)) :: ((nb, .cells #[.int .i64 ((s.2.2.1))] 3 (0, 0)) :: ((b6_2, .cells (#[.int .i64 ((0 : Nat) : Int), .slice (none) (0) (0), Go.E.str ([]), .int .i64 ((0 : Nat) : Int), .slice (none) (0) (0)]) 35 (0, 0)) :: ([])))))) (fun s => t.subs.length - (s.1)) (0, [], bud - 1, [], none, 0, M6) ⟨rfl, rfl, rfl, rfl, rfl, rfl, trivial⟩ ⟨by dsimp only; omega, SumOk.start _, Grow.refl _ _, hown0, hS⟩ ?_
    rintro ⟨i, acc, bc, g, oa, oc, M8⟩ w ⟨hi, hsum, hG8, hown, hS⟩
    dsimp only at hi hsum hG8 hown hS ⊢
    have hal := hsum.len (by omega)
    have hsb : bc ≤ bud - 1 := by
      have h7 := hsum.2.1
      omega
    have hsc : -80001 ≤ bc := by
      rcases hsum.2.2 with h7 | h7
      · omega
      · have h8 := hsum.2.1; rw [h7] at h8; simp [sizes] at h8; omega
    refine CW.seq ?_
    refine CW.seq ?_
    refine CW.post (fun L' w' => Sub [(1, .int .i64 ((left : Nat) : Int)), (2, .pointer (some ⟨nb, 0, none⟩)), (3, .pointer (some ⟨b3_0, 0, none⟩)), (6, .pointer (some ⟨b6_2, 0, none⟩)), (7, .pointer (some ⟨b7_6, 0, none⟩)), (8, .int .i64 ((i : Nat) : Int)), (48, .bool (decide (i < t.subs.length ∧ 0 < left ∧ 0 < bc)))] L' ∧ St w0 w' M8 (g ++ ((b7_6, .cells (#[.int .i64 (t.kind), .slice (ay5) (((t.data).take (min (t.data.length) (40))).length) (cy5), Go.E.str ((t.name).take (min ((t.name).length) (20))), .int .i64 (t.num), .slice (oa) (acc.length) (oc)]) 35 (0, 0)) :: ((nb, .cells (#[.int .i64 (bc)]) 3 (0, 0)) :: ((b6_2, .cells (#[.int .i64 ((0 : Nat) : Int), .slice (none) (0) (0), Go.E.str ([]), .int .i64 ((0 : Nat) : Int), .slice (none) (0) (0)]) 35 (0, 0)) :: ([])))))) ?_ ?_
    · refine CW.region ?_
      refine WL.step rfl (Stp.res rfl rfl (Res.move rfl rfl) ?_)
      refine WL.step rfl (Stp.res rfl rfl (Res.fieldA rfl rfl underlying35 rfl (show SZ Tryz.prog _ 1 from sz22) (by decide)) ?_)
      refine WL.step rfl (Stp.res rfl rfl (Res.load1 (v := .slice (la1) (t.subs.length) (lc1)) rfl rfl underlying22 rfl (hS.cell (PH.cell_of (hbb3_0_2.mono (hG6.trans hG8).1) rfl))) ?_)
      refine WL.step rfl (Stp.res rfl rfl (Res.len rfl rfl rfl rfl underlying22) ?_)
      refine WL.step rfl (Stp.res rfl rfl (Res.lss rfl rfl rfl) ?_)
      refine WL.step rfl (Stp.res rfl rfl (Res.move rfl rfl) ?_)
      by_cases hg9 : ((i : Nat) : Int) < ((t.subs.length : Nat) : Int)
      · refine WL.stepG 5 true rfl rfl rfl (bT hg9) (Stp.res rfl rfl (Res.move rfl rfl) ?_)
        refine WL.stepG 5 true rfl rfl rfl (bT hg9) (Stp.res rfl rfl (Res.gtr rfl rfl rfl) ?_)
        refine WL.step rfl (Stp.res rfl rfl (Res.pickT rfl (bT hg9) rfl) ?_)
        refine WL.step rfl (Stp.res rfl rfl (Res.move rfl rfl) ?_)
        by_cases hg10 : ((0 : Nat) : Int) < ((left : Nat) : Int)
        · refine WL.stepG 9 true rfl rfl rfl (bT hg10) (Stp.res rfl rfl (Res.move rfl rfl) ?_)
          refine WL.stepG 9 true rfl rfl rfl (bT hg10) (Stp.res rfl rfl (Res.nilCheck rfl rfl) ?_)
          refine WL.stepG 9 true rfl rfl rfl (bT hg10) (Stp.res rfl rfl (Res.load1 (v := .int .i64 (bc)) rfl rfl underlying3 rfl (cell_in ((hS.pull2).get (i := 0) rfl) rfl)) ?_)
          refine WL.stepG 9 true rfl rfl rfl (bT hg10) (Stp.res rfl rfl (Res.gtr rfl rfl rfl) ?_)
          refine WL.step rfl (Stp.res rfl rfl (Res.pickT rfl (bT hg10) rfl) ?_)
          refine WL.nil (Thn_n ?_)
          exact ⟨⟨rfl, rfl, rfl, rfl, rfl, rfl, (bI (by omega)), trivial⟩, hS⟩
        · refine WL.skipG 9 true rfl rfl rfl (bF hg10) rfl rfl ?_
          refine WL.skipG 9 true rfl rfl rfl (bF hg10) rfl rfl ?_
          refine WL.skipG 9 true rfl rfl rfl (bF hg10) rfl rfl ?_
          refine WL.skipG 9 true rfl rfl rfl (bF hg10) rfl rfl ?_
          refine WL.step rfl (Stp.res rfl rfl (Res.pickF rfl (bF hg10) rfl) ?_)
          refine WL.nil (Thn_n ?_)
          exact ⟨⟨rfl, rfl, rfl, rfl, rfl, rfl, (bFr (by omega)), trivial⟩, hS⟩
      · refine WL.skipG 5 true rfl rfl rfl (bF hg9) rfl rfl ?_
        refine WL.skipG 5 true rfl rfl rfl (bF hg9) rfl rfl ?_
        refine WL.step rfl (Stp.res rfl rfl (Res.pickF rfl (bF hg9) rfl) ?_)
        refine WL.step rfl (Stp.res rfl rfl (Res.move rfl rfl) ?_)
        refine WL.skipG 9 true rfl rfl rfl rfl rfl rfl ?_
        refine WL.skipG 9 true rfl rfl rfl rfl rfl rfl ?_
        refine WL.skipG 9 true rfl rfl rfl rfl rfl rfl ?_
        refine WL.skipG 9 true rfl rfl rfl rfl rfl rfl ?_
        refine WL.step rfl (Stp.res rfl rfl (Res.pickF rfl rfl rfl) ?_)
        refine WL.nil (Thn_n ?_)
        exact ⟨⟨rfl, rfl, rfl, rfl, rfl, rfl, (bFr (by omega)), trivial⟩, hS⟩
    · rintro L' w ⟨hsub, hS⟩
      refine (Thn_n (CW.sub hsub ?_))
      refine CW.ite rfl (fun hc11 => ?_) (fun hc11 => ?_)
      · refine CW.skip (Thn_n ?_)
        refine CW.seq ?_
        refine CW.block ?_
        have hS := hS.drew
        have hK0 : On M8 w ∧ w.heap[b7_6]? = some (.cells (#[.int .i64 (t.kind), .slice (ay5) (((t.data).take (min (t.data.length) (40))).length) (cy5), Go.E.str ((t.name).take (min ((t.name).length) (20))), .int .i64 (t.num), .slice (oa) (acc.length) (oc)]) 35 (0, 0)) := ⟨hS.on, (hS.pull).get (i := 0) rfl⟩
        refine CW.last (fun w => On M8 w ∧ w.heap[b7_6]? = some (.cells (#[.int .i64 (t.kind), .slice (ay5) (((t.data).take (min (t.data.length) (40))).length) (cy5), Go.E.str ((t.name).take (min ((t.name).length) (20))), .int .i64 (t.num), .slice (oa) (acc.length) (oc)]) 35 (0, 0))) [14] mixed ?_
        refine ZL.take 0 rfl (by kernel_rfl) rfl rfl rfl hK0 (fun w hK => Res.fieldA rfl rfl underlying35 rfl (show SZ Tryz.prog _ 1 from sz22) (by decide)) ?_
        refine ZL.take 1 rfl (by kernel_rfl) rfl rfl rfl hK0 (fun w hK => Res.load1 (v := .slice (oa) (acc.length) (oc)) rfl rfl underlying22 rfl (cell_in (hK.2) rfl)) ?_
        refine ZL.take 2 rfl (by kernel_rfl) rfl rfl rfl hK0 (fun w hK => Res.fieldA rfl rfl underlying35 rfl (show SZ Tryz.prog _ 1 from sz22) (by decide)) ?_
        refine ZL.take 3 rfl (by kernel_rfl) rfl rfl rfl hK0 (fun w hK => Res.load1 (v := .slice (la1) (t.subs.length) (lc1)) rfl rfl underlying22 rfl (hK.1.st.cell (PH.cell_of (hbb3_0_2.mono (hG6.trans hG8).1) rfl))) ?_
        refine ZL.take 4 rfl (by kernel_rfl) rfl rfl rfl hK0 (fun w hK => Res.move rfl rfl) ?_
        obtain ⟨be13, oe13, dae13, dce13, sae13, sce13, eae13, hce13, hde13, hse13⟩ := Ts2.get (j := i) hs1 (by omega)
        have hne13 := hse13.len
        refine ZL.take 5 rfl (by kernel_rfl) rfl rfl rfl hK0 (fun w hK => Res.idxT 5 (k := i) rfl rfl eae13 rfl underlying22 sz35 (Int.toNat_natCast _) (by omega)) ?_
        refine ZL.take 6 rfl (by kernel_rfl) rfl rfl rfl hK0 (fun w hK => Res.loadN (r := (TV ((t.subs.getD i T0)) dae13 dce13 sae13 sce13).toList) rfl rfl underlying35 rfl sz35 rfl (fun j u hu => hK.1.st.cell (PH.cell_mono ((hG2.trans hG6).trans hG8).1 (hce13 j u hu)))) ?_
        refine ZL.take 7 rfl (by kernel_rfl) rfl rfl rfl hK0 (fun w hK => Res.move rfl rfl) ?_
        refine ZL.take 8 rfl (by kernel_rfl) rfl rfl rfl hK0 (fun w hK => Res.cast (Res.sub rfl rfl rfl (by omega)) (show _ = (.int .i64 ((left - 1 : Nat) : Int) : Value) from congrArg (Value.int .i64) (by omega))) ?_
        refine ZL.take 9 rfl (by kernel_rfl) rfl rfl rfl hK0 (fun w hK => Res.move rfl rfl) ?_
        replace hS : St w0 _ M8 ((nb, .cells (#[.int .i64 (bc)]) 3 (0, 0)) :: (g ++ ((b7_6, .cells (#[.int .i64 (t.kind), .slice (ay5) (((t.data).take (min (t.data.length) (40))).length) (cy5), Go.E.str ((t.name).take (min ((t.name).length) (20))), .int .i64 (t.num), .slice (oa) (acc.length) (oc)]) 35 (0, 0)) :: ((b6_2, .cells (#[.int .i64 ((0 : Nat) : Int), .slice (none) (0) (0), Go.E.str ([]), .int .i64 ((0 : Nat) : Int), .slice (none) (0) (0)]) 35 (0, 0)) :: ([]))))) := hS.pull2
        refine ZL.one 10 rfl (by kernel_rfl) rfl (Stp.callOG 0 (args := [.agg (TV ((t.subs.getD i T0)) dae13 dce13 sae13 sce13), .int .i64 ((left - 1 : Nat) : Int), .pointer (some ⟨nb, 0, none⟩)]) rfl rfl rfl cal55 rfl rfl hS rfl (ih (left - 1) (by omega) (t.subs.getD i T0) _ _ _ _ ((bc)) nb _ _ hS.on (hS.get (i := 0) rfl) (hS.out (i := 0) rfl) (by omega) (by omega) (hde13.mono ((hG2.trans hG6).trans hG8).1) (hse13.mono ((hG2.trans hG6).trans hG8).1)) ?_)
        rintro _ w M15 _ hS hG15 ⟨uq14, daq14, dcq14, laq14, lcq14, bq14, rfl, rfl, hdq14, hsq14, hcq14⟩
        change St w0 _ M15 ((nb, .cells (#[.int .i64 (bq14)]) 3 (0, 0)) :: (g ++ ((b7_6, .cells (#[.int .i64 (t.kind), .slice (ay5) (((t.data).take (min (t.data.length) (40))).length) (cy5), Go.E.str ((t.name).take (min ((t.name).length) (20))), .int .i64 (t.num), .slice (oa) (acc.length) (oc)]) 35 (0, 0)) :: ((b6_2, .cells (#[.int .i64 ((0 : Nat) : Int), .slice (none) (0) (0), Go.E.str ([]), .int .i64 ((0 : Nat) : Int), .slice (none) (0) (0)]) 35 (0, 0)) :: ([]))))) at hS
        replace hS : St w0 _ M15 (g ++ ((nb, .cells (#[.int .i64 (bq14)]) 3 (0, 0)) :: ((b7_6, .cells (#[.int .i64 (t.kind), .slice (ay5) (((t.data).take (min (t.data.length) (40))).length) (cy5), Go.E.str ((t.name).take (min ((t.name).length) (20))), .int .i64 (t.num), .slice (oa) (acc.length) (oc)]) 35 (0, 0)) :: ((b6_2, .cells (#[.int .i64 ((0 : Nat) : Int), .slice (none) (0) (0), Go.E.str ([]), .int .i64 ((0 : Nat) : Int), .slice (none) (0) (0)]) 35 (0, 0)) :: ([]))))) := hS.mid
        have hK0 : On M8 w ∧ w.heap[b7_6]? = some (.cells (#[.int .i64 (t.kind), .slice (ay5) (((t.data).take (min (t.data.length) (40))).length) (cy5), Go.E.str ((t.name).take (min ((t.name).length) (20))), .int .i64 (t.num), .slice (oa) (acc.length) (oc)]) 35 (0, 0)) := ⟨(hS.known hG15.1).on, (hS.pull2).get (i := 0) rfl⟩
        refine ⟨hK0, ?_⟩
        refine ZL.one 11 rfl (by kernel_rfl) rfl (Stp.lit (vals := [(0, .agg (TV (uq14) daq14 dcq14 laq14 lcq14))]) (cs := TV (uq14) daq14 dcq14 laq14 lcq14) (e := 35) rfl rfl (fun _ => by kernel_rfl) rfl rfl hS ?_)
        intro b62_15 w hbb62_15 hS hkp hnw
        obtain ⟨M17, hG17, hbb62_15_17, hS⟩ : ∃ Mx, Grow w0.heap.size M15 Mx ∧ Kb Mx b62_15 (.cells (TV (uq14) daq14 dcq14 laq14 lcq14) 35 (0, 0)) ∧ St w0 w Mx (g ++ ((nb, .cells (#[.int .i64 (bq14)]) 3 (0, 0)) :: ((b7_6, .cells (#[.int .i64 (t.kind), .slice (ay5) (((t.data).take (min (t.data.length) (40))).length) (cy5), Go.E.str ((t.name).take (min ((t.name).length) (20))), .int .i64 (t.num), .slice (oa) (acc.length) (oc)]) 35 (0, 0)) :: ((b6_2, .cells (#[.int .i64 ((0 : Nat) : Int), .slice (none) (0) (0), Go.E.str ([]), .int .i64 ((0 : Nat) : Int), .slice (none) (0) (0)]) 35 (0, 0)) :: ([]))))) := by
          have hF := hS.freezeG (i := 0) rfl hbb62_15
          exact ⟨_, hF.2, PH.add_self _ _ _, hF.1⟩
        have hl18 : Ts M17 (.slice (some ⟨b62_15, 0, none⟩) (1) (1)) [uq14] := Ts2.lit1 hbb62_15_17 (Tm.of (hdq14.mono hG17.1) (hsq14.mono hG17.1))
        have hK0 : On M8 w ∧ w.heap[b7_6]? = some (.cells (#[.int .i64 (t.kind), .slice (ay5) (((t.data).take (min (t.data.length) (40))).length) (cy5), Go.E.str ((t.name).take (min ((t.name).length) (20))), .int .i64 (t.num), .slice (oa) (acc.length) (oc)]) 35 (0, 0)) := ⟨(hS.known (hG15.trans hG17).1).on, (hS.pull2).get (i := 0) rfl⟩
        refine ⟨hK0, ?_⟩
        refine ZL.one 12 rfl (by kernel_rfl) rfl (Stp.appendT (r := uq14) rfl rfl rfl rfl etT22 rfl underlying22 hbb62_15_17 (Tm.of (hdq14.mono hG17.1) (hsq14.mono hG17.1)) hS (hown.mono (hG15.trans hG17).1) (by omega) (by decide) rfl rfl ?_)
        intro aw19 cw19 w gw19 hS howw19
        have hK0 : On M8 w ∧ w.heap[b7_6]? = some (.cells (#[.int .i64 (t.kind), .slice (ay5) (((t.data).take (min (t.data.length) (40))).length) (cy5), Go.E.str ((t.name).take (min ((t.name).length) (20))), .int .i64 (t.num), .slice (oa) (acc.length) (oc)]) 35 (0, 0)) := ⟨(hS.known (hG15.trans hG17).1).on, (hS.pull2).get (i := 0) rfl⟩
        refine ⟨hK0, ?_⟩
        refine ZL.take 13 rfl (by kernel_rfl) rfl rfl rfl hK0 (fun w hK => Res.fieldA rfl rfl underlying35 rfl (show SZ Tryz.prog _ 1 from sz22) (by decide)) ?_
        replace hS : St w0 _ M17 ((b7_6, .cells (#[.int .i64 (t.kind), .slice (ay5) (((t.data).take (min (t.data.length) (40))).length) (cy5), Go.E.str ((t.name).take (min ((t.name).length) (20))), .int .i64 (t.num), .slice (oa) (acc.length) (oc)]) 35 (0, 0)) :: (gw19 ++ ((nb, .cells (#[.int .i64 (bq14)]) 3 (0, 0)) :: ((b6_2, .cells (#[.int .i64 ((0 : Nat) : Int), .slice (none) (0) (0), Go.E.str ([]), .int .i64 ((0 : Nat) : Int), .slice (none) (0) (0)]) 35 (0, 0)) :: ([]))))) := hS.pull2
        refine ZL.end 14 (by decide) rfl (by kernel_rfl) rfl (Stp.store1 0 (v := .slice (aw19) ((acc ++ [uq14]).length) (cw19)) rfl rfl rfl sz22 rfl rfl hS rfl (blt_lt rfl) ?_)
        intro w hS hpt
        change St w0 _ M17 ((b7_6, .cells (#[.int .i64 (t.kind), .slice (ay5) (((t.data).take (min (t.data.length) (40))).length) (cy5), Go.E.str ((t.name).take (min ((t.name).length) (20))), .int .i64 (t.num), .slice (aw19) ((acc ++ [uq14]).length) (cw19)]) 35 (0, 0)) :: (gw19 ++ ((nb, .cells (#[.int .i64 (bq14)]) 3 (0, 0)) :: ((b6_2, .cells (#[.int .i64 ((0 : Nat) : Int), .slice (none) (0) (0), Go.E.str ([]), .int .i64 ((0 : Nat) : Int), .slice (none) (0) (0)]) 35 (0, 0)) :: ([]))))) at hS
        refine ZL.done (by kernel_rfl) (Blk_n (Thn_n ?_))
        refine CW.region ?_
        refine WL.step rfl (Stp.res rfl rfl (Res.move rfl rfl) ?_)
        refine WL.step rfl (Stp.res rfl rfl (Res.cast (Res.add rfl rfl rfl (by omega)) (show _ = (.int .i64 ((i + 1 : Nat) : Int) : Value) from congrArg (Value.int .i64) (by omega))) ?_)
        refine WL.step rfl (Stp.res rfl rfl (Res.assign rfl rfl) ?_)
        refine WL.nil (Thn_n ?_)
        replace hS : St w0 _ M17 (gw19 ++ ((b7_6, .cells (#[.int .i64 (t.kind), .slice (ay5) (((t.data).take (min (t.data.length) (40))).length) (cy5), Go.E.str ((t.name).take (min ((t.name).length) (20))), .int .i64 (t.num), .slice (aw19) ((acc ++ [uq14]).length) (cw19)]) 35 (0, 0)) :: ((nb, .cells (#[.int .i64 (bq14)]) 3 (0, 0)) :: ((b6_2, .cells (#[.int .i64 ((0 : Nat) : Int), .slice (none) (0) (0), Go.E.str ([]), .int .i64 ((0 : Nat) : Int), .slice (none) (0) (0)]) 35 (0, 0)) :: ([]))))) := hS.mid
        have hsm2 := hsum.next (by omega) hcq14
        have hla : (acc ++ [uq14]).length = acc.length + 1 := by simp
        exact ⟨(i + 1, acc ++ [uq14], bq14, gw19, aw19, cw19, M17), ⟨(rfl), (rfl), (rfl), (rfl), (rfl), (by first | rfl | exact intc (by omega)), trivial⟩, ⟨by dsimp only; omega, hsm2, ((hG8.trans hG15).trans hG17), howw19, hS⟩, by dsimp only; omega⟩
      · refine CW.exit (Thn_x (Thn_x (Blk_x (Thn_n ?_))))
        refine CW.seq ?_
        obtain ⟨M20, hS, hG20, hgv21⟩ := hown.give hS
        refine CW.region ?_
        refine WL.step rfl (Stp.res rfl rfl (Res.loadAll (cs := #[.int .i64 (t.kind), .slice (ay5) (((t.data).take (min (t.data.length) (40))).length) (cy5), Go.E.str ((t.name).take (min ((t.name).length) (20))), .int .i64 (t.num), .slice (oa) (acc.length) (oc)]) rfl rfl underlying35 rfl sz35 (hS.get (i := 0) rfl)) ?_)
        refine WL.step rfl (Stp.storeAll 2 rfl rfl rfl (sz35) (by intro v hv; simp at hv; rcases hv with rfl | rfl | rfl | rfl | rfl <;> rfl) rfl hS rfl rfl ?_)
        intro w hS hpt
        change St w0 _ M20 ([(b7_6, .cells (#[.int .i64 (t.kind), .slice (ay5) (((t.data).take (min (t.data.length) (40))).length) (cy5), Go.E.str ((t.name).take (min ((t.name).length) (20))), .int .i64 (t.num), .slice (oa) (acc.length) (oc)]) 35 (0, 0)), (nb, .cells (#[.int .i64 (bc)]) 3 (0, 0)), (b6_2, .cells (#[.int .i64 (t.kind), .slice (ay5) (((t.data).take (min (t.data.length) (40))).length) (cy5), Go.E.str ((t.name).take (min ((t.name).length) (20))), .int .i64 (t.num), .slice (oa) (acc.length) (oc)]) 35 (0, 0))]) at hS
        refine WL.nil (Thn_n ?_)
        refine CW.ret ?_
        have hck := hsum.cut (k := t.kind) (n := t.num) (d := (t.data).take (min (t.data.length) (40))) (nm := (t.name).take (min ((t.name).length) (20))) (by omega) (by simp only [List.length_take]; omega) (by simp only [List.length_take]; omega)
        exact fq_cell rfl rfl (hS.get (i := 2) rfl) underlying35 rfl sz35 ⟨_, _, ((hS.drop (i := 0) rfl hbb7_6).drop (i := 1) rfl hbb6_2), (((hG2.trans hG6).trans hG8).trans hG20).1, (((hG2.trans hG6).trans hG8).trans hG20).2, _, _, _, _, _, _, rfl, rfl, (hy5.mono (hG8.trans hG20).1), (hgv21.toTs hG20.1 (PH.le.refl _)), hck⟩
  · refine Stp.alloc (cs := #[.int .i64 ((0 : Nat) : Int), .slice (none) (0) (0), Go.E.str ([]), .int .i64 ((0 : Nat) : Int), .slice (none) (0) (0)]) rfl zt35 rfl rfl rfl hS ?_
    intro b7_21 w hbb7_21 hS hkp hnw
    have hK0 : On M2 w := hS.on
    refine ⟨hK0, ?_⟩
    refine AL.one 9 rfl (by kernel_rfl) rfl (Stp.callG (args := [.slice (da1) (min (t.data.length) (40)) (dc1)]) rfl rfl rfl cal36 rfl rfl hS (bytes_ok _ ((t.data).take (min (t.data.length) (40))) _ _ hS.on ((hd1.take (h := min (t.data.length) (40)) (by omega)).mono hG2.1) (by first | omega | (simp; done) | (simp; omega))) ?_)
    rintro vy23 w M24 hS hG24 hy23
    obtain ⟨ay23, cy23, rfl, -, -, -, -⟩ := id hy23
    have hK0 : On M2 w := (hS.known hG24.1).on
    refine ⟨hK0, ?_⟩
    refine AL.take 19 rfl (by kernel_rfl) (by kernel_rfl) (by kernel_rfl) rfl rfl rfl hK0 (fun w hK => Res.build (vals := [(0, .int .i64 (t.kind)), (1, .slice (ay23) (((t.data).take (min (t.data.length) (40))).length) (cy23)), (2, Go.E.str ((t.name).take (min ((t.name).length) (20)))), (3, .int .i64 (t.num))]) (cs := #[.int .i64 (t.kind), .slice (ay23) (((t.data).take (min (t.data.length) (40))).length) (cy23), Go.E.str ((t.name).take (min ((t.name).length) (20))), .int .i64 (t.num), .slice (none) (0) (0)]) rfl rfl (fun _ => by kernel_rfl)) ?_
    refine AL.one 21 rfl (by kernel_rfl) rfl (Stp.storeAll 0 rfl rfl rfl (sz35) (by intro v hv; simp at hv; rcases hv with rfl | rfl | rfl | rfl | rfl <;> rfl) rfl hS rfl rfl ?_)
    intro w hS hpt
    change St w0 _ M24 ([(b7_21, .cells (#[.int .i64 (t.kind), .slice (ay23) (((t.data).take (min (t.data.length) (40))).length) (cy23), Go.E.str ((t.name).take (min ((t.name).length) (20))), .int .i64 (t.num), .slice (none) (0) (0)]) 35 (0, 0)), (b6_2, .cells (#[.int .i64 ((0 : Nat) : Int), .slice (none) (0) (0), Go.E.str ([]), .int .i64 ((0 : Nat) : Int), .slice (none) (0) (0)]) 35 (0, 0)), (nb, .cells (#[.int .i64 ((bud) - ((1 : Nat) : Int))]) 3 (0, 0))]) at hS
    have hK0 : On M2 w := (hS.known hG24.1).on
    refine ⟨hK0, ?_⟩
    refine AL.done (by kernel_rfl) (Thn_n ?_)
    refine CW.seq ?_
    refine CW.seq ?_
    refine CW.region ?_
    refine WL.step rfl (Stp.res rfl rfl (Res.assign rfl rfl) ?_)
    refine WL.nil (Thn_n ?_)
    refine CW.block ?_
    have hown0 : OwnT M24 w0.heap.size [] (.slice none 0 0) [] 35 := OwnT.nil _ _ _
    replace hS : St w0 _ M24 ([(b7_21, .cells (#[.int .i64 (t.kind), .slice (ay23) (((t.data).take (min (t.data.length) (40))).length) (cy23), Go.E.str ((t.name).take (min ((t.name).length) (20))), .int .i64 (t.num), .slice (none) (0) (0)]) 35 (0, 0)), (nb, .cells (#[.int .i64 ((bud) - ((1 : Nat) : Int))]) 3 (0, 0)), (b6_2, .cells (#[.int .i64 ((0 : Nat) : Int), .slice (none) (0) (0), Go.E.str ([]), .int .i64 ((0 : Nat) : Int), .slice (none) (0) (0)]) 35 (0, 0))]) := hS.perm (List.Perm.cons _ (List.Perm.swap _ _ _))
    refine CW.loop (σ := Nat × List T × Int × Owned × Option Addr × Nat × PH) (fun s => [(1, .int .i64 ((left : Nat) : Int)), (2, .pointer (some ⟨nb, 0, none⟩)), (3, .pointer (some ⟨b3_0, 0, none⟩)), (6, .pointer (some ⟨b6_2, 0, none⟩)), (7, .pointer (some ⟨b7_21, 0, none⟩)), (8, .int .i64 (((s.1) : Nat) : Int))])
      (fun s w' => (s.1) ≤ t.subs.length ∧ SumOk (s.2.1) (bud - 1) (s.2.2.1) ∧ Grow w0.heap.size M24 (s.2.2.2.2.2.2) ∧ OwnT (s.2.2.2.2.2.2) w0.heap.size (s.2.2.2.1) (.slice (s.2.2.2.2.1) (s.2.1).length (s.2.2.2.2.2.1)) (s.2.1) 35 ∧ St w0 w' (s.2.2.2.2.2.2) ((s.2.2.2.1) ++ ((b7_21, .cells (#[.int .i64 (t.kind), .slice (ay23) (((t.data).take (min (t.data.length) (40))).length) (cy23), Go.E.str ((t.name).take (min ((t.name).length) (20))), .int .i64 (t.num), .slice (s.2.2.2.2.1) (s.2.1).length (s.2.2.2.2.2.1)]) 35 (0, 0)) :: ((nb, .cells #[.int .i64 ((s.2.2.1))] 3 (0, 0)) :: ((b6_2, .cells (#[.int .i64 ((0 : Nat) : Int), .slice (none) (0) (0), Go.E.str ([]), .int .i64 ((0 : Nat) : Int), .slice (none) (0) (0)]) 35 (0, 0)) :: ([])))))) (fun s => t.subs.length - (s.1)) (0, [], bud - 1, [], none, 0, M24) ⟨rfl, rfl, rfl, rfl, rfl, rfl, trivial⟩ ⟨by dsimp only; omega, SumOk.start _, Grow.refl _ _, hown0, hS⟩ ?_
    rintro ⟨i, acc, bc, g, oa, oc, M25⟩ w ⟨hi, hsum, hG25, hown, hS⟩
    dsimp only at hi hsum hG25 hown hS ⊢
    have hal := hsum.len (by omega)
    have hsb : bc ≤ bud - 1 := by
      have h7 := hsum.2.1
      omega
    have hsc : -80001 ≤ bc := by
      rcases hsum.2.2 with h7 | h7
      · omega
      · have h8 := hsum.2.1; rw [h7] at h8; simp [sizes] at h8; omega
    refine CW.seq ?_
    refine CW.seq ?_
    refine CW.post (fun L' w' => Sub [(1, .int .i64 ((left : Nat) : Int)), (2, .pointer (some ⟨nb, 0, none⟩)), (3, .pointer (some ⟨b3_0, 0, none⟩)), (6, .pointer (some ⟨b6_2, 0, none⟩)), (7, .pointer (some ⟨b7_21, 0, none⟩)), (8, .int .i64 ((i : Nat) : Int)), (48, .bool (decide (i < t.subs.length ∧ 0 < left ∧ 0 < bc)))] L' ∧ St w0 w' M25 (g ++ ((b7_21, .cells (#[.int .i64 (t.kind), .slice (ay23) (((t.data).take (min (t.data.length) (40))).length) (cy23), Go.E.str ((t.name).take (min ((t.name).length) (20))), .int .i64 (t.num), .slice (oa) (acc.length) (oc)]) 35 (0, 0)) :: ((nb, .cells (#[.int .i64 (bc)]) 3 (0, 0)) :: ((b6_2, .cells (#[.int .i64 ((0 : Nat) : Int), .slice (none) (0) (0), Go.E.str ([]), .int .i64 ((0 : Nat) : Int), .slice (none) (0) (0)]) 35 (0, 0)) :: ([])))))) ?_ ?_
    · refine CW.region ?_
      refine WL.step rfl (Stp.res rfl rfl (Res.move rfl rfl) ?_)
      refine WL.step rfl (Stp.res rfl rfl (Res.fieldA rfl rfl underlying35 rfl (show SZ Tryz.prog _ 1 from sz22) (by decide)) ?_)
      refine WL.step rfl (Stp.res rfl rfl (Res.load1 (v := .slice (la1) (t.subs.length) (lc1)) rfl rfl underlying22 rfl (hS.cell (PH.cell_of (hbb3_0_2.mono (hG24.trans hG25).1) rfl))) ?_)
      refine WL.step rfl (Stp.res rfl rfl (Res.len rfl rfl rfl rfl underlying22) ?_)
      refine WL.step rfl (Stp.res rfl rfl (Res.lss rfl rfl rfl) ?_)
      refine WL.step rfl (Stp.res rfl rfl (Res.move rfl rfl) ?_)
      by_cases hg26 : ((i : Nat) : Int) < ((t.subs.length : Nat) : Int)
      · refine WL.stepG 5 true rfl rfl rfl (bT hg26) (Stp.res rfl rfl (Res.move rfl rfl) ?_)
        refine WL.stepG 5 true rfl rfl rfl (bT hg26) (Stp.res rfl rfl (Res.gtr rfl rfl rfl) ?_)
        refine WL.step rfl (Stp.res rfl rfl (Res.pickT rfl (bT hg26) rfl) ?_)
        refine WL.step rfl (Stp.res rfl rfl (Res.move rfl rfl) ?_)
        by_cases hg27 : ((0 : Nat) : Int) < ((left : Nat) : Int)
        · refine WL.stepG 9 true rfl rfl rfl (bT hg27) (Stp.res rfl rfl (Res.move rfl rfl) ?_)
          refine WL.stepG 9 true rfl rfl rfl (bT hg27) (Stp.res rfl rfl (Res.nilCheck rfl rfl) ?_)
          refine WL.stepG 9 true rfl rfl rfl (bT hg27) (Stp.res rfl rfl (Res.load1 (v := .int .i64 (bc)) rfl rfl underlying3 rfl (cell_in ((hS.pull2).get (i := 0) rfl) rfl)) ?_)
          refine WL.stepG 9 true rfl rfl rfl (bT hg27) (Stp.res rfl rfl (Res.gtr rfl rfl rfl) ?_)
          refine WL.step rfl (Stp.res rfl rfl (Res.pickT rfl (bT hg27) rfl) ?_)
          refine WL.nil (Thn_n ?_)
          exact ⟨⟨rfl, rfl, rfl, rfl, rfl, rfl, (bI (by omega)), trivial⟩, hS⟩
        · refine WL.skipG 9 true rfl rfl rfl (bF hg27) rfl rfl ?_
          refine WL.skipG 9 true rfl rfl rfl (bF hg27) rfl rfl ?_
          refine WL.skipG 9 true rfl rfl rfl (bF hg27) rfl rfl ?_
          refine WL.skipG 9 true rfl rfl rfl (bF hg27) rfl rfl ?_
          refine WL.step rfl (Stp.res rfl rfl (Res.pickF rfl (bF hg27) rfl) ?_)
          refine WL.nil (Thn_n ?_)
          exact ⟨⟨rfl, rfl, rfl, rfl, rfl, rfl, (bFr (by omega)), trivial⟩, hS⟩
      · refine WL.skipG 5 true rfl rfl rfl (bF hg26) rfl rfl ?_
        refine WL.skipG 5 true rfl rfl rfl (bF hg26) rfl rfl ?_
        refine WL.step rfl (Stp.res rfl rfl (Res.pickF rfl (bF hg26) rfl) ?_)
        refine WL.step rfl (Stp.res rfl rfl (Res.move rfl rfl) ?_)
        refine WL.skipG 9 true rfl rfl rfl rfl rfl rfl ?_
        refine WL.skipG 9 true rfl rfl rfl rfl rfl rfl ?_
        refine WL.skipG 9 true rfl rfl rfl rfl rfl rfl ?_
        refine WL.skipG 9 true rfl rfl rfl rfl rfl rfl ?_
        refine WL.step rfl (Stp.res rfl rfl (Res.pickF rfl rfl rfl) ?_)
        refine WL.nil (Thn_n ?_)
        exact ⟨⟨rfl, rfl, rfl, rfl, rfl, rfl, (bFr (by omega)), trivial⟩, hS⟩
    · rintro L' w ⟨hsub, hS⟩
      refine (Thn_n (CW.sub hsub ?_))
      refine CW.ite rfl (fun hc28 => ?_) (fun hc28 => ?_)
      · refine CW.skip (Thn_n ?_)
        refine CW.seq ?_
        refine CW.block ?_
        have hS := hS.drew
        have hK0 : On M25 w ∧ w.heap[b7_21]? = some (.cells (#[.int .i64 (t.kind), .slice (ay23) (((t.data).take (min (t.data.length) (40))).length) (cy23), Go.E.str ((t.name).take (min ((t.name).length) (20))), .int .i64 (t.num), .slice (oa) (acc.length) (oc)]) 35 (0, 0)) := ⟨hS.on, (hS.pull).get (i := 0) rfl⟩
        refine CW.last (fun w => On M25 w ∧ w.heap[b7_21]? = some (.cells (#[.int .i64 (t.kind), .slice (ay23) (((t.data).take (min (t.data.length) (40))).length) (cy23), Go.E.str ((t.name).take (min ((t.name).length) (20))), .int .i64 (t.num), .slice (oa) (acc.length) (oc)]) 35 (0, 0))) [14] mixed ?_
        refine ZL.take 0 rfl (by kernel_rfl) rfl rfl rfl hK0 (fun w hK => Res.fieldA rfl rfl underlying35 rfl (show SZ Tryz.prog _ 1 from sz22) (by decide)) ?_
        refine ZL.take 1 rfl (by kernel_rfl) rfl rfl rfl hK0 (fun w hK => Res.load1 (v := .slice (oa) (acc.length) (oc)) rfl rfl underlying22 rfl (cell_in (hK.2) rfl)) ?_
        refine ZL.take 2 rfl (by kernel_rfl) rfl rfl rfl hK0 (fun w hK => Res.fieldA rfl rfl underlying35 rfl (show SZ Tryz.prog _ 1 from sz22) (by decide)) ?_
        refine ZL.take 3 rfl (by kernel_rfl) rfl rfl rfl hK0 (fun w hK => Res.load1 (v := .slice (la1) (t.subs.length) (lc1)) rfl rfl underlying22 rfl (hK.1.st.cell (PH.cell_of (hbb3_0_2.mono (hG24.trans hG25).1) rfl))) ?_
        refine ZL.take 4 rfl (by kernel_rfl) rfl rfl rfl hK0 (fun w hK => Res.move rfl rfl) ?_
        obtain ⟨be30, oe30, dae30, dce30, sae30, sce30, eae30, hce30, hde30, hse30⟩ := Ts2.get (j := i) hs1 (by omega)
        have hne30 := hse30.len
        refine ZL.take 5 rfl (by kernel_rfl) rfl rfl rfl hK0 (fun w hK => Res.idxT 5 (k := i) rfl rfl eae30 rfl underlying22 sz35 (Int.toNat_natCast _) (by omega)) ?_
        refine ZL.take 6 rfl (by kernel_rfl) rfl rfl rfl hK0 (fun w hK => Res.loadN (r := (TV ((t.subs.getD i T0)) dae30 dce30 sae30 sce30).toList) rfl rfl underlying35 rfl sz35 rfl (fun j u hu => hK.1.st.cell (PH.cell_mono ((hG2.trans hG24).trans hG25).1 (hce30 j u hu)))) ?_
        refine ZL.take 7 rfl (by kernel_rfl) rfl rfl rfl hK0 (fun w hK => Res.move rfl rfl) ?_
        refine ZL.take 8 rfl (by kernel_rfl) rfl rfl rfl hK0 (fun w hK => Res.cast (Res.sub rfl rfl rfl (by omega)) (show _ = (.int .i64 ((left - 1 : Nat) : Int) : Value) from congrArg (Value.int .i64) (by omega))) ?_
        refine ZL.take 9 rfl (by kernel_rfl) rfl rfl rfl hK0 (fun w hK => Res.move rfl rfl) ?_
        replace hS : St w0 _ M25 ((nb, .cells (#[.int .i64 (bc)]) 3 (0, 0)) :: (g ++ ((b7_21, .cells (#[.int .i64 (t.kind), .slice (ay23) (((t.data).take (min (t.data.length) (40))).length) (cy23), Go.E.str ((t.name).take (min ((t.name).length) (20))), .int .i64 (t.num), .slice (oa) (acc.length) (oc)]) 35 (0, 0)) :: ((b6_2, .cells (#[.int .i64 ((0 : Nat) : Int), .slice (none) (0) (0), Go.E.str ([]), .int .i64 ((0 : Nat) : Int), .slice (none) (0) (0)]) 35 (0, 0)) :: ([]))))) := hS.pull2
        refine ZL.one 10 rfl (by kernel_rfl) rfl (Stp.callOG 0 (args := [.agg (TV ((t.subs.getD i T0)) dae30 dce30 sae30 sce30), .int .i64 ((left - 1 : Nat) : Int), .pointer (some ⟨nb, 0, none⟩)]) rfl rfl rfl cal55 rfl rfl hS rfl (ih (left - 1) (by omega) (t.subs.getD i T0) _ _ _ _ ((bc)) nb _ _ hS.on (hS.get (i := 0) rfl) (hS.out (i := 0) rfl) (by omega) (by omega) (hde30.mono ((hG2.trans hG24).trans hG25).1) (hse30.mono ((hG2.trans hG24).trans hG25).1)) ?_)
        rintro _ w M32 _ hS hG32 ⟨uq31, daq31, dcq31, laq31, lcq31, bq31, rfl, rfl, hdq31, hsq31, hcq31⟩
        change St w0 _ M32 ((nb, .cells (#[.int .i64 (bq31)]) 3 (0, 0)) :: (g ++ ((b7_21, .cells (#[.int .i64 (t.kind), .slice (ay23) (((t.data).take (min (t.data.length) (40))).length) (cy23), Go.E.str ((t.name).take (min ((t.name).length) (20))), .int .i64 (t.num), .slice (oa) (acc.length) (oc)]) 35 (0, 0)) :: ((b6_2, .cells (#[.int .i64 ((0 : Nat) : Int), .slice (none) (0) (0), Go.E.str ([]), .int .i64 ((0 : Nat) : Int), .slice (none) (0) (0)]) 35 (0, 0)) :: ([]))))) at hS
        replace hS : St w0 _ M32 (g ++ ((nb, .cells (#[.int .i64 (bq31)]) 3 (0, 0)) :: ((b7_21, .cells (#[.int .i64 (t.kind), .slice (ay23) (((t.data).take (min (t.data.length) (40))).length) (cy23), Go.E.str ((t.name).take (min ((t.name).length) (20))), .int .i64 (t.num), .slice (oa) (acc.length) (oc)]) 35 (0, 0)) :: ((b6_2, .cells (#[.int .i64 ((0 : Nat) : Int), .slice (none) (0) (0), Go.E.str ([]), .int .i64 ((0 : Nat) : Int), .slice (none) (0) (0)]) 35 (0, 0)) :: ([]))))) := hS.mid
        have hK0 : On M25 w ∧ w.heap[b7_21]? = some (.cells (#[.int .i64 (t.kind), .slice (ay23) (((t.data).take (min (t.data.length) (40))).length) (cy23), Go.E.str ((t.name).take (min ((t.name).length) (20))), .int .i64 (t.num), .slice (oa) (acc.length) (oc)]) 35 (0, 0)) := ⟨(hS.known hG32.1).on, (hS.pull2).get (i := 0) rfl⟩
        refine ⟨hK0, ?_⟩
        refine ZL.one 11 rfl (by kernel_rfl) rfl (Stp.lit (vals := [(0, .agg (TV (uq31) daq31 dcq31 laq31 lcq31))]) (cs := TV (uq31) daq31 dcq31 laq31 lcq31) (e := 35) rfl rfl (fun _ => by kernel_rfl) rfl rfl hS ?_)
        intro b62_32 w hbb62_32 hS hkp hnw
        obtain ⟨M34, hG34, hbb62_32_34, hS⟩ : ∃ Mx, Grow w0.heap.size M32 Mx ∧ Kb Mx b62_32 (.cells (TV (uq31) daq31 dcq31 laq31 lcq31) 35 (0, 0)) ∧ St w0 w Mx (g ++ ((nb, .cells (#[.int .i64 (bq31)]) 3 (0, 0)) :: ((b7_21, .cells (#[.int .i64 (t.kind), .slice (ay23) (((t.data).take (min (t.data.length) (40))).length) (cy23), Go.E.str ((t.name).take (min ((t.name).length) (20))), .int .i64 (t.num), .slice (oa) (acc.length) (oc)]) 35 (0, 0)) :: ((b6_2, .cells (#[.int .i64 ((0 : Nat) : Int), .slice (none) (0) (0), Go.E.str ([]), .int .i64 ((0 : Nat) : Int), .slice (none) (0) (0)]) 35 (0, 0)) :: ([]))))) := by
          have hF := hS.freezeG (i := 0) rfl hbb62_32
          exact ⟨_, hF.2, PH.add_self _ _ _, hF.1⟩
        have hl35 : Ts M34 (.slice (some ⟨b62_32, 0, none⟩) (1) (1)) [uq31] := Ts2.lit1 hbb62_32_34 (Tm.of (hdq31.mono hG34.1) (hsq31.mono hG34.1))
        have hK0 : On M25 w ∧ w.heap[b7_21]? = some (.cells (#[.int .i64 (t.kind), .slice (ay23) (((t.data).take (min (t.data.length) (40))).length) (cy23), Go.E.str ((t.name).take (min ((t.name).length) (20))), .int .i64 (t.num), .slice (oa) (acc.length) (oc)]) 35 (0, 0)) := ⟨(hS.known (hG32.trans hG34).1).on, (hS.pull2).get (i := 0) rfl⟩
        refine ⟨hK0, ?_⟩
        refine ZL.one 12 rfl (by kernel_rfl) rfl (Stp.appendT (r := uq31) rfl rfl rfl rfl etT22 rfl underlying22 hbb62_32_34 (Tm.of (hdq31.mono hG34.1) (hsq31.mono hG34.1)) hS (hown.mono (hG32.trans hG34).1) (by omega) (by decide) rfl rfl ?_)
        intro aw36 cw36 w gw36 hS howw36
        have hK0 : On M25 w ∧ w.heap[b7_21]? = some (.cells (#[.int .i64 (t.kind), .slice (ay23) (((t.data).take (min (t.data.length) (40))).length) (cy23), Go.E.str ((t.name).take (min ((t.name).length) (20))), .int .i64 (t.num), .slice (oa) (acc.length) (oc)]) 35 (0, 0)) := ⟨(hS.known (hG32.trans hG34).1).on, (hS.pull2).get (i := 0) rfl⟩
        refine ⟨hK0, ?_⟩
        refine ZL.take 13 rfl (by kernel_rfl) rfl rfl rfl hK0 (fun w hK => Res.fieldA rfl rfl underlying35 rfl (show SZ Tryz.prog _ 1 from sz22) (by decide)) ?_
        replace hS : St w0 _ M34 ((b7_21, .cells (#[.int .i64 (t.kind), .slice (ay23) (((t.data).take (min (t.data.length) (40))).length) (cy23), Go.E.str ((t.name).take (min ((t.name).length) (20))), .int .i64 (t.num), .slice (oa) (acc.length) (oc)]) 35 (0, 0)) :: (gw36 ++ ((nb, .cells (#[.int .i64 (bq31)]) 3 (0, 0)) :: ((b6_2, .cells (#[.int .i64 ((0 : Nat) : Int), .slice (none) (0) (0), Go.E.str ([]), .int .i64 ((0 : Nat) : Int), .slice (none) (0) (0)]) 35 (0, 0)) :: ([]))))) := hS.pull2
        refine ZL.end 14 (by decide) rfl (by kernel_rfl) rfl (Stp.store1 0 (v := .slice (aw36) ((acc ++ [uq31]).length) (cw36)) rfl rfl rfl sz22 rfl rfl hS rfl (blt_lt rfl) ?_)
        intro w hS hpt
        change St w0 _ M34 ((b7_21, .cells (#[.int .i64 (t.kind), .slice (ay23) (((t.data).take (min (t.data.length) (40))).length) (cy23), Go.E.str ((t.name).take (min ((t.name).length) (20))), .int .i64 (t.num), .slice (aw36) ((acc ++ [uq31]).length) (cw36)]) 35 (0, 0)) :: (gw36 ++ ((nb, .cells (#[.int .i64 (bq31)]) 3 (0, 0)) :: ((b6_2, .cells (#[.int .i64 ((0 : Nat) : Int), .slice (none) (0) (0), Go.E.str ([]), .int .i64 ((0 : Nat) : Int), .slice (none) (0) (0)]) 35 (0, 0)) :: ([]))))) at hS
        refine ZL.done (by kernel_rfl) (Blk_n (Thn_n ?_))
        refine CW.region ?_
        refine WL.step rfl (Stp.res rfl rfl (Res.move rfl rfl) ?_)
        refine WL.step rfl (Stp.res rfl rfl (Res.cast (Res.add rfl rfl rfl (by omega)) (show _ = (.int .i64 ((i + 1 : Nat) : Int) : Value) from congrArg (Value.int .i64) (by omega))) ?_)
        refine WL.step rfl (Stp.res rfl rfl (Res.assign rfl rfl) ?_)
        refine WL.nil (Thn_n ?_)
        replace hS : St w0 _ M34 (gw36 ++ ((b7_21, .cells (#[.int .i64 (t.kind), .slice (ay23) (((t.data).take (min (t.data.length) (40))).length) (cy23), Go.E.str ((t.name).take (min ((t.name).length) (20))), .int .i64 (t.num), .slice (aw36) ((acc ++ [uq31]).length) (cw36)]) 35 (0, 0)) :: ((nb, .cells (#[.int .i64 (bq31)]) 3 (0, 0)) :: ((b6_2, .cells (#[.int .i64 ((0 : Nat) : Int), .slice (none) (0) (0), Go.E.str ([]), .int .i64 ((0 : Nat) : Int), .slice (none) (0) (0)]) 35 (0, 0)) :: ([]))))) := hS.mid
        have hsm2 := hsum.next (by omega) hcq31
        have hla : (acc ++ [uq31]).length = acc.length + 1 := by simp
        exact ⟨(i + 1, acc ++ [uq31], bq31, gw36, aw36, cw36, M34), ⟨(rfl), (rfl), (rfl), (rfl), (rfl), (by first | rfl | exact intc (by omega)), trivial⟩, ⟨by dsimp only; omega, hsm2, ((hG25.trans hG32).trans hG34), howw36, hS⟩, by dsimp only; omega⟩
      · refine CW.exit (Thn_x (Thn_x (Blk_x (Thn_n ?_))))
        refine CW.seq ?_
        obtain ⟨M37, hS, hG37, hgv38⟩ := hown.give hS
        refine CW.region ?_
        refine WL.step rfl (Stp.res rfl rfl (Res.loadAll (cs := #[.int .i64 (t.kind), .slice (ay23) (((t.data).take (min (t.data.length) (40))).length) (cy23), Go.E.str ((t.name).take (min ((t.name).length) (20))), .int .i64 (t.num), .slice (oa) (acc.length) (oc)]) rfl rfl underlying35 rfl sz35 (hS.get (i := 0) rfl)) ?_)
        refine WL.step rfl (Stp.storeAll 2 rfl rfl rfl (sz35) (by intro v hv; simp at hv; rcases hv with rfl | rfl | rfl | rfl | rfl <;> rfl) rfl hS rfl rfl ?_)
        intro w hS hpt
        change St w0 _ M37 ([(b7_21, .cells (#[.int .i64 (t.kind), .slice (ay23) (((t.data).take (min (t.data.length) (40))).length) (cy23), Go.E.str ((t.name).take (min ((t.name).length) (20))), .int .i64 (t.num), .slice (oa) (acc.length) (oc)]) 35 (0, 0)), (nb, .cells (#[.int .i64 (bc)]) 3 (0, 0)), (b6_2, .cells (#[.int .i64 (t.kind), .slice (ay23) (((t.data).take (min (t.data.length) (40))).length) (cy23), Go.E.str ((t.name).take (min ((t.name).length) (20))), .int .i64 (t.num), .slice (oa) (acc.length) (oc)]) 35 (0, 0))]) at hS
        refine WL.nil (Thn_n ?_)
        refine CW.ret ?_
        have hck := hsum.cut (k := t.kind) (n := t.num) (d := (t.data).take (min (t.data.length) (40))) (nm := (t.name).take (min ((t.name).length) (20))) (by omega) (by simp only [List.length_take]; omega) (by simp only [List.length_take]; omega)
        exact fq_cell rfl rfl (hS.get (i := 2) rfl) underlying35 rfl sz35 ⟨_, _, ((hS.drop (i := 0) rfl hbb7_21).drop (i := 1) rfl hbb6_2), (((hG2.trans hG24).trans hG25).trans hG37).1, (((hG2.trans hG24).trans hG25).trans hG37).2, _, _, _, _, _, _, rfl, rfl, (hy23.mono (hG25.trans hG37).1), (hgv38.toTs hG37.1 (PH.le.refl _)), hck⟩
theorem cut_okL (left : Nat) : CutC 55 left := by
  induction left using Nat.strongRecOn with
  | _ left ih => exact cut_step left ih
end Go.Proofs.YtcmgimicdcchlaaGreatDoor
set_option linter.unusedSimpArgs false
set_option linter.unusedVariables false
set_option maxRecDepth 20000
namespace Go.Proofs.YtcmgimicdcchlaaGreatDoor
open Go.Proofs.Tryz
open Go Go.E Go.Trm
def SomeR (M : PH) (k : List T) (r : Value) : Prop := ∃ a c a' c', r = .tuple #[.slice a k.length c, .slice a' (k.map (plainT 10)).length c'] ∧ Ts M (.slice a k.length c) k ∧ Ts M (.slice a' (k.map (plainT 10)).length c') (k.map (plainT 10))
theorem cal17 : Callable Tryz.prog 17 := ⟨Tryz.f17, func17, rfl, by kernel_rfl⟩
theorem cal19 : Callable Tryz.prog 19 := ⟨Tryz.f19, func19, rfl, by kernel_rfl⟩
theorem cal52 : Callable Tryz.prog 52 := ⟨Tryz.f52, func52, rfl, by kernel_rfl⟩
theorem cal53 : Callable Tryz.prog 53 := ⟨Tryz.f53, func53, rfl, by kernel_rfl⟩
theorem cal54 : Callable Tryz.prog 54 := ⟨Tryz.f54, func54, rfl, by kernel_rfl⟩
theorem some_okL (l : List T) (m bud : Nat) (ka : Option Addr) (kc : Nat) (w0 : World) (M : PH) (hM : On M w0) (hm9 : m ≤ 1000) (hb9 : bud ≤ 10000) (hk : Ts M (.slice ka l.length kc) l) : Ok Tryz.prog 14 #[.slice ka l.length kc, .int .i64 (m : Int), .int .i64 (bud : Int)] w0 M (fun M' r => ∃ kk, SomeOk kk l.length m bud ∧ SomeR M' kk r) := by
  have hS := hM.st
  have hbl := hk.len
  refine enterB (l := [.slice (ka) (l.length) (kc), .int .i64 ((m : Nat) : Int), .int .i64 ((bud : Nat) : Int)]) 41 func14 rfl ntmps14 rfl ?_
  refine CW.seq ?_
  refine CW.region ?_
  refine WL.step rfl (Stp.box (cs := #[.int .i64 ((bud : Nat) : Int)]) rfl rfl rfl rfl rfl hS ?_)
  intro b5_0 w hbb5_0 hS hkp hnw
  refine WL.step rfl (Stp.res rfl rfl (Res.assign rfl rfl) ?_)
  refine WL.step rfl (Stp.res rfl rfl (Res.assign rfl rfl) ?_)
  refine WL.nil (Thn_n ?_)
  refine CW.seq ?_
  refine CW.region ?_
  refine WL.step rfl (Stp.lit (vals := []) (cs := #[]) (e := 35) rfl rfl (fun _ => by kernel_rfl) rfl rfl hS ?_)
  intro b12_1 w hbb12_1 hS hkp hnw
  have howw3 : OwnT M w0.heap.size [(b12_1, Obj.cells #[] 35 (0, 0))] (.slice (some ⟨b12_1, 0, none⟩) 0 0) [] 35 := OwnT.nil0 M 35 hbb12_1
  change St w0 _ M ([(b12_1, Obj.cells #[] 35 (0, 0))] ++ ([(b5_0, .cells (#[.int .i64 ((bud : Nat) : Int)]) 3 (0, 0))])) at hS
  refine WL.step rfl (Stp.lit (vals := []) (cs := #[]) (e := 32) rfl rfl (fun _ => by kernel_rfl) rfl rfl hS ?_)
  intro b13_3 w hbb13_3 hS hkp hnw
  have howw5 : OwnT M w0.heap.size [(b13_3, Obj.cells #[] 32 (0, 0))] (.slice (some ⟨b13_3, 0, none⟩) 0 0) [] 32 := OwnT.nil0 M 32 hbb13_3
  change St w0 _ M ([(b13_3, Obj.cells #[] 32 (0, 0))] ++ ([(b12_1, Obj.cells #[] 35 (0, 0))] ++ ((b5_0, .cells (#[.int .i64 ((bud : Nat) : Int)]) 3 (0, 0)) :: ([])))) at hS
  refine WL.step rfl (Stp.res rfl rfl (Res.assign rfl rfl) ?_)
  refine WL.step rfl (Stp.res rfl rfl (Res.assign rfl rfl) ?_)
  refine WL.nil (Thn_n ?_)
  refine CW.seq ?_
  refine CW.seq ?_
  refine CW.region ?_
  refine WL.step rfl (Stp.res rfl rfl (Res.assign rfl rfl) ?_)
  refine WL.nil (Thn_n ?_)
  refine CW.block ?_
  replace hS : St w0 _ M ([(b12_1, Obj.cells #[] 35 (0, 0))] ++ ([(b13_3, Obj.cells #[] 32 (0, 0))] ++ ((b5_0, .cells (#[.int .i64 ((bud : Nat) : Int)]) 3 (0, 0)) :: ([])))) := hS.rot
  refine CW.loop (σ := Nat × List T × Int × Owned × Option Addr × Nat × Owned × Option Addr × Nat × PH) (fun s => [(0, .slice (ka) (l.length) (kc)), (1, .int .i64 ((m : Nat) : Int)), (5, .pointer (some ⟨b5_0, 0, none⟩)), (6, .slice (none) (0) (0)), (7, .slice (none) (0) (0)), (8, .slice ((s.2.2.2.2.1)) ((s.2.1).length) ((s.2.2.2.2.2.1))), (9, .slice ((s.2.2.2.2.2.2.2.1)) (((s.2.1).map (plainT 10)).length) ((s.2.2.2.2.2.2.2.2.1))), (10, .int .i64 (((s.1) : Nat) : Int))])
    (fun s w' => (s.1) ≤ l.length ∧ (s.1) ≤ m ∧ (s.2.1).length = (s.1) ∧ (∀ t ∈ (s.2.1), Fine t) ∧ (sizes (s.2.1) : Int) + max (s.2.2.1) 0 ≤ (s.2.1).length + max (bud : Int) 0 ∧ (-((s.1) : Int) ≤ (s.2.2.1) ∧ (s.2.2.1) ≤ bud) ∧ Grow w0.heap.size M (s.2.2.2.2.2.2.2.2.2) ∧ OwnT (s.2.2.2.2.2.2.2.2.2) w0.heap.size (s.2.2.2.1) (.slice (s.2.2.2.2.1) (s.2.1).length (s.2.2.2.2.2.1)) (s.2.1) 35 ∧ OwnT (s.2.2.2.2.2.2.2.2.2) w0.heap.size (s.2.2.2.2.2.2.1) (.slice (s.2.2.2.2.2.2.2.1) ((s.2.1).map (plainT 10)).length (s.2.2.2.2.2.2.2.2.1)) ((s.2.1).map (plainT 10)) 32 ∧ St w0 w' (s.2.2.2.2.2.2.2.2.2) ((s.2.2.2.1) ++ ((s.2.2.2.2.2.2.1) ++ ((b5_0, .cells #[.int .i64 ((s.2.2.1))] 3 (0, 0)) :: ([]))))) (fun s => l.length - (s.1)) (0, [], bud, [(b12_1, Obj.cells #[] 35 (0, 0))], some ⟨b12_1, 0, none⟩, 0, [(b13_3, Obj.cells #[] 32 (0, 0))], some ⟨b13_3, 0, none⟩, 0, M) ⟨rfl, rfl, rfl, rfl, rfl, rfl, rfl, rfl, trivial⟩ ⟨by dsimp only; omega, by dsimp only; omega, rfl, (fun t ht => by cases ht), by simp [sizes], by dsimp only; omega, Grow.refl _ _, howw3, howw5, hS⟩ ?_
  rintro ⟨i, kk, bc, g, oa, oc, h, pa, pc, M6⟩ w ⟨hi, him, hkl, hfk, hsk, hbc, hG6, hown, hown2, hS⟩
  dsimp only at hi him hkl hfk hsk hbc hG6 hown hown2 hS ⊢
  have hml : (kk.map (plainT 10)).length = kk.length := List.length_map ..
  refine CW.seq ?_
  refine CW.seq ?_
  refine CW.post (fun L' w' => Sub [(0, .slice (ka) (l.length) (kc)), (1, .int .i64 ((m : Nat) : Int)), (5, .pointer (some ⟨b5_0, 0, none⟩)), (6, .slice (none) (0) (0)), (7, .slice (none) (0) (0)), (8, .slice (oa) (kk.length) (oc)), (9, .slice (pa) ((kk.map (plainT 10)).length) (pc)), (10, .int .i64 ((i : Nat) : Int)), (22, .bool (decide (i < l.length ∧ i < m)))] L' ∧ St w0 w' M6 (g ++ (h ++ ((b5_0, .cells (#[.int .i64 (bc)]) 3 (0, 0)) :: ([]))))) ?_ ?_
  · refine CW.region ?_
    refine WL.step rfl (Stp.res rfl rfl (Res.move rfl rfl) ?_)
    refine WL.step rfl (Stp.res rfl rfl (Res.move rfl rfl) ?_)
    refine WL.step rfl (Stp.res rfl rfl (Res.len rfl rfl rfl rfl underlying22) ?_)
    refine WL.step rfl (Stp.res rfl rfl (Res.lss rfl rfl rfl) ?_)
    refine WL.step rfl (Stp.res rfl rfl (Res.move rfl rfl) ?_)
    by_cases hg7 : ((i : Nat) : Int) < ((l.length : Nat) : Int)
    · refine WL.stepG 4 true rfl rfl rfl (bT hg7) (Stp.res rfl rfl (Res.move rfl rfl) ?_)
      refine WL.stepG 4 true rfl rfl rfl (bT hg7) (Stp.res rfl rfl (Res.move rfl rfl) ?_)
      refine WL.stepG 4 true rfl rfl rfl (bT hg7) (Stp.res rfl rfl (Res.lss rfl rfl rfl) ?_)
      refine WL.step rfl (Stp.res rfl rfl (Res.pickT rfl (bT hg7) rfl) ?_)
      refine WL.nil (Thn_n ?_)
      exact ⟨⟨rfl, rfl, rfl, rfl, rfl, rfl, rfl, rfl, (bI (by omega)), trivial⟩, hS⟩
    · refine WL.skipG 4 true rfl rfl rfl (bF hg7) rfl rfl ?_
      refine WL.skipG 4 true rfl rfl rfl (bF hg7) rfl rfl ?_
      refine WL.skipG 4 true rfl rfl rfl (bF hg7) rfl rfl ?_
      refine WL.step rfl (Stp.res rfl rfl (Res.pickF rfl (bF hg7) rfl) ?_)
      refine WL.nil (Thn_n ?_)
      exact ⟨⟨rfl, rfl, rfl, rfl, rfl, rfl, rfl, rfl, (bFr (by omega)), trivial⟩, hS⟩
  · rintro L' w ⟨hsub, hS⟩
    refine (Thn_n (CW.sub hsub ?_))
    refine CW.ite rfl (fun hc8 => ?_) (fun hc8 => ?_)
    · refine CW.skip (Thn_n ?_)
      refine CW.seq ?_
      refine CW.block ?_
      refine CW.seq ?_
      refine CW.region ?_
      refine WL.step rfl (Stp.res rfl rfl (Res.move rfl rfl) ?_)
      refine WL.step rfl (Stp.res rfl rfl (Res.move rfl rfl) ?_)
      obtain ⟨be9, oe9, dae9, dce9, sae9, sce9, eae9, hce9, hde9, hse9⟩ := Ts2.get (j := i) hk (by omega)
      have hne9 := hse9.len
      refine WL.step rfl (Stp.res rfl rfl (Res.idxT 5 (k := i) rfl rfl eae9 rfl underlying22 sz35 (Int.toNat_natCast _) (by omega)) ?_)
      refine WL.step rfl (Stp.res rfl rfl (Res.loadN (r := (TV ((l.getD i T0)) dae9 dce9 sae9 sce9).toList) rfl rfl underlying35 rfl sz35 rfl (fun j u hu => hS.cell (PH.cell_mono hG6.1 (hce9 j u hu)))) ?_)
      replace hS : St w0 _ M6 ((b5_0, .cells (#[.int .i64 (bc)]) 3 (0, 0)) :: (g ++ (h ++ ([])))) := hS.pullGG
      refine WL.step rfl (Stp.callOG 0 (args := [.agg (TV ((l.getD i T0)) dae9 dce9 sae9 sce9), .int .i64 ((9 : Nat) : Int), .pointer (some ⟨b5_0, 0, none⟩)]) rfl rfl rfl cal55 rfl rfl hS rfl (cut_okL (9) (l.getD i T0) _ _ _ _ ((bc)) b5_0 _ _ hS.on (hS.get (i := 0) rfl) (hS.out (i := 0) rfl) (by omega) (by omega) (hde9.mono hG6.1) (hse9.mono hG6.1)) ?_)
      rintro _ w M11 _ hS hG11 ⟨uq10, daq10, dcq10, laq10, lcq10, bq10, rfl, rfl, hdq10, hsq10, hcq10⟩
      change St w0 _ M11 ((b5_0, .cells (#[.int .i64 (bq10)]) 3 (0, 0)) :: (g ++ (h ++ ([])))) at hS
      replace hS : St w0 _ M11 (g ++ (h ++ ((b5_0, .cells (#[.int .i64 (bq10)]) 3 (0, 0)) :: ([])))) := hS.midGG
      refine WL.step rfl (Stp.alloc (cs := #[.int .i64 ((0 : Nat) : Int), .slice (none) (0) (0), Go.E.str ([]), .int .i64 ((0 : Nat) : Int), .slice (none) (0) (0)]) rfl zt35 rfl rfl rfl hS ?_)
      intro b11_11 w hbb11_11 hS hkp hnw
      refine WL.step rfl (Stp.storeAll 0 rfl rfl rfl (sz35) (Tm.of hdq10 hsq10).one rfl hS rfl rfl ?_)
      intro w hS hpt
      change St w0 _ M11 ((b11_11, .cells (TV (uq10) daq10 dcq10 laq10 lcq10) 35 (0, 0)) :: (g ++ (h ++ ((b5_0, .cells (#[.int .i64 (bq10)]) 3 (0, 0)) :: ([]))))) at hS
      obtain ⟨M13, hG13, hbb11_11_13, hS⟩ : ∃ Mx, Grow w0.heap.size M11 Mx ∧ Kb Mx b11_11 (.cells (TV (uq10) daq10 dcq10 laq10 lcq10) 35 (0, 0)) ∧ St w0 w Mx (g ++ (h ++ ((b5_0, .cells (#[.int .i64 (bq10)]) 3 (0, 0)) :: ([])))) := by
        have hF := hS.freezeG (i := 0) rfl hbb11_11
        exact ⟨_, hF.2, PH.add_self _ _ _, hF.1⟩
      refine WL.nil (Thn_n ?_)
      have hS := hS.drew
      have hK0 : On M13 w := hS.on
      refine CW.held (fun w => On M13 w) mixed ?_
      refine AL.take 0 rfl (by kernel_rfl) (by kernel_rfl) (by kernel_rfl) rfl rfl rfl hK0 (fun w hK => Res.move rfl rfl) ?_
      refine AL.take 1 rfl (by kernel_rfl) (by kernel_rfl) (by kernel_rfl) rfl rfl rfl hK0 (fun w hK => Res.loadAll (cs := TV (uq10) daq10 dcq10 laq10 lcq10) rfl rfl underlying35 rfl sz35 (hK.st.on _ _ hbb11_11_13)) ?_
      refine AL.take 4 rfl (by kernel_rfl) (by kernel_rfl) (by kernel_rfl) rfl rfl rfl hK0 (fun w hK => Res.move rfl rfl) ?_
      refine AL.take 5 rfl (by kernel_rfl) (by kernel_rfl) (by kernel_rfl) rfl rfl rfl hK0 (fun w hK => Res.loadAll (cs := TV (uq10) daq10 dcq10 laq10 lcq10) rfl rfl underlying35 rfl sz35 (hK.st.on _ _ hbb11_11_13)) ?_
      refine AL.one 2 rfl (by kernel_rfl) rfl (Stp.lit (vals := [(0, .agg (TV (uq10) daq10 dcq10 laq10 lcq10))]) (cs := TV (uq10) daq10 dcq10 laq10 lcq10) (e := 35) rfl rfl (fun _ => by kernel_rfl) rfl rfl hS ?_)
      intro b32_14 w hbb32_14 hS hkp hnw
      obtain ⟨M16, hG16, hbb32_14_16, hS⟩ : ∃ Mx, Grow w0.heap.size M13 Mx ∧ Kb Mx b32_14 (.cells (TV (uq10) daq10 dcq10 laq10 lcq10) 35 (0, 0)) ∧ St w0 w Mx (g ++ (h ++ ((b5_0, .cells (#[.int .i64 (bq10)]) 3 (0, 0)) :: ([])))) := by
        have hF := hS.freezeG (i := 0) rfl hbb32_14
        exact ⟨_, hF.2, PH.add_self _ _ _, hF.1⟩
      have hl17 : Ts M16 (.slice (some ⟨b32_14, 0, none⟩) (1) (1)) [uq10] := Ts2.lit1 hbb32_14_16 (Tm.of (hdq10.mono (hG13.trans hG16).1) (hsq10.mono (hG13.trans hG16).1))
      have hK0 : On M13 w := (hS.known hG16.1).on
      refine ⟨hK0, ?_⟩
      refine AL.one 3 rfl (by kernel_rfl) rfl (Stp.appendT (r := uq10) rfl rfl rfl rfl etT22 rfl underlying22 hbb32_14_16 (Tm.of (hdq10.mono (hG13.trans hG16).1) (hsq10.mono (hG13.trans hG16).1)) hS (hown.mono ((hG11.trans hG13).trans hG16).1) (by omega) (by decide) rfl rfl ?_)
      intro aw18 cw18 w gw18 hS howw18
      have hK0 : On M13 w := (hS.known hG16.1).on
      refine ⟨hK0, ?_⟩
      refine AL.one 6 rfl (by kernel_rfl) rfl (Stp.callG (args := [.agg (TV (uq10) daq10 dcq10 laq10 lcq10), .int .i64 ((10 : Nat) : Int)]) rfl rfl rfl cal16 rfl rfl hS (plain_okL (10) uq10 _ _ _ _ _ _ hS.on (by omega) (hdq10.mono (hG13.trans hG16).1) (hsq10.mono (hG13.trans hG16).1)) ?_)
      rintro _ w M20 hS hG20 ⟨daq19, dcq19, laq19, lcq19, rfl, hdq19, hsq19⟩
      have hK0 : On M13 w := (hS.known (hG16.trans hG20).1).on
      refine ⟨hK0, ?_⟩
      refine AL.one 7 rfl (by kernel_rfl) rfl (Stp.lit (vals := [(0, .agg (TV ((plainT (10) uq10)) daq19 dcq19 laq19 lcq19))]) (cs := TV ((plainT (10) uq10)) daq19 dcq19 laq19 lcq19) (e := 32) rfl rfl (fun _ => by kernel_rfl) rfl rfl hS ?_)
      intro b37_20 w hbb37_20 hS hkp hnw
      obtain ⟨M22, hG22, hbb37_20_22, hS⟩ : ∃ Mx, Grow w0.heap.size M20 Mx ∧ Kb Mx b37_20 (.cells (TV ((plainT (10) uq10)) daq19 dcq19 laq19 lcq19) 32 (0, 0)) ∧ St w0 w Mx (gw18 ++ (h ++ ((b5_0, .cells (#[.int .i64 (bq10)]) 3 (0, 0)) :: ([])))) := by
        have hF := hS.freezeG (i := 0) rfl hbb37_20
        exact ⟨_, hF.2, PH.add_self _ _ _, hF.1⟩
      have hl23 : Ts M22 (.slice (some ⟨b37_20, 0, none⟩) (1) (1)) [(plainT (10) uq10)] := Ts2.lit1 hbb37_20_22 (Tm.of (hdq19.mono hG22.1) (hsq19.mono hG22.1))
      have hK0 : On M13 w := (hS.known ((hG16.trans hG20).trans hG22).1).on
      refine ⟨hK0, ?_⟩
      replace hS : St w0 _ M22 (h ++ (gw18 ++ ((b5_0, .cells (#[.int .i64 (bq10)]) 3 (0, 0)) :: ([])))) := hS.rot
      refine AL.one 8 rfl (by kernel_rfl) rfl (Stp.appendT (r := (plainT (10) uq10)) rfl rfl rfl rfl etT24 rfl underlying24 hbb37_20_22 (Tm.of (hdq19.mono hG22.1) (hsq19.mono hG22.1)) hS (hown2.mono ((((hG11.trans hG13).trans hG16).trans hG20).trans hG22).1) (by omega) (by decide) rfl rfl ?_)
      intro aw24 cw24 w gw24 hS howw24
      have hK0 : On M13 w := (hS.known ((hG16.trans hG20).trans hG22).1).on
      refine ⟨hK0, ?_⟩
      refine AL.take 9 rfl (by kernel_rfl) (by kernel_rfl) (by kernel_rfl) rfl rfl rfl hK0 (fun w hK => Res.assign rfl rfl) ?_
      refine AL.take 10 rfl (by kernel_rfl) (by kernel_rfl) (by kernel_rfl) rfl rfl rfl hK0 (fun w hK => Res.assign rfl rfl) ?_
      refine AL.done (by kernel_rfl) (Blk_n (Thn_n ?_))
      refine CW.region ?_
      refine WL.step rfl (Stp.res rfl rfl (Res.move rfl rfl) ?_)
      refine WL.step rfl (Stp.res rfl rfl (Res.cast (Res.add rfl rfl rfl (by omega)) (show _ = (.int .i64 ((i + 1 : Nat) : Int) : Value) from congrArg (Value.int .i64) (by omega))) ?_)
      refine WL.step rfl (Stp.res rfl rfl (Res.assign rfl rfl) ?_)
      refine WL.nil (Thn_n ?_)
      replace hS : St w0 _ M22 (gw18 ++ (gw24 ++ ((b5_0, .cells (#[.int .i64 (bq10)]) 3 (0, 0)) :: ([])))) := hS.rot
      obtain ⟨hfk2, hsk2⟩ := SomeOk.next (i := 0) hfk hsk hcq10
      have hla : (kk ++ [uq10]).length = kk.length + 1 := by simp
      have hmp : (kk ++ [uq10]).map (plainT 10) = kk.map (plainT 10) ++ [plainT 10 uq10] := by simp
      have hbb := hcq10.2
      exact ⟨(i + 1, kk ++ [uq10], bq10, gw18, aw18, cw18, gw24, aw24, cw24, M22), ⟨(rfl), (rfl), (rfl), (rfl), (rfl), (by first | rfl | exact intc (by omega)), (congrArg (fun z : List T => some (Value.slice _ z.length _)) hmp.symm), (by first | rfl | exact intc (by omega)), trivial⟩, ⟨by dsimp only; omega, by dsimp only; omega, by dsimp only; omega, hfk2, hsk2, by dsimp only; omega, (((((hG6.trans hG11).trans hG13).trans hG16).trans hG20).trans hG22), howw18.mono (hG20.trans hG22).1, by dsimp only; rw [hmp]; exact howw24, hS⟩, by dsimp only; omega⟩
    · refine CW.exit (Thn_x (Thn_x (Blk_x (Thn_n ?_))))
      refine CW.seq ?_
      refine CW.region ?_
      refine WL.step rfl (Stp.res rfl rfl (Res.move rfl rfl) ?_)
      refine WL.step rfl (Stp.res rfl rfl (Res.move rfl rfl) ?_)
      refine WL.step rfl (Stp.res rfl rfl (Res.assign rfl rfl) ?_)
      refine WL.step rfl (Stp.res rfl rfl (Res.assign rfl rfl) ?_)
      refine WL.nil (Thn_n ?_)
      refine CW.ret ?_
      obtain ⟨M25, hS, hG25, hgv26⟩ := hown.give hS
      have hq9 := OwnT.mono hG25.1 hown2
      obtain ⟨M27, hS, hG27, hgv28⟩ := hq9.give hS
      have hsk3 : (sizes kk : Int) ≤ kk.length + max (bud : Int) 0 := by omega
      exact fq_tmp2 rfl rfl rfl ⟨_, (hS.drop (i := 0) rfl hbb5_0), ((hG6.trans hG25).trans hG27).1, ((hG6.trans hG25).trans hG27).2, kk, ⟨by omega, hfk, hsk3⟩, _, _, _, _, rfl, (hgv26.toTs (hG25.trans hG27).1 hG27.1), (hgv28.toTs hG27.1 (PH.le.refl _))⟩
theorem works29_ok (w0 : World) (M : PH) (hM : On M w0) (hgl : GL M) (hge : GE M) : Ok Tryz.prog 13 #[] w0 M (fun M' r => M = M' ∧ r = .bool true) := by
  have hS := hM.st
  refine enterB (l := []) 72 func13 rfl ntmps13 rfl ?_
  refine CW.seq ?_
  refine CW.region ?_
  refine WL.step rfl (Stp.res rfl rfl (Res.assign rfl rfl) ?_)
  refine WL.nil (Thn_n ?_)
  refine CW.seq ?_
  refine CW.region ?_
  refine WL.step rfl (Stp.callG (args := [Go.E.str ([107])]) rfl rfl rfl cal53 rfl rfl hS (secret_ok ([107]) _ _ hS.on) ?_)
  rintro _ w _ hS _ ⟨rfl, rfl⟩
  refine WL.step rfl (Stp.callG (args := [Go.E.str ([109])]) rfl rfl rfl cal53 rfl rfl hS (secret_ok ([109]) _ _ hS.on) ?_)
  rintro _ w _ hS _ ⟨rfl, rfl⟩
  refine WL.step rfl (Stp.callG (args := [.agg (TV ((T.mk 2 [] ([107]) 0 [])) none (0) none (0)), .agg (TV ((T.mk 2 [] ([109]) 0 [])) none (0) none (0))]) rfl rfl rfl cal52 rfl rfl hS (sealed_ok (T.mk 2 [] ([107]) 0 []) (T.mk 2 [] ([109]) 0 []) _ _ _ _ _ _ _ _ _ _ hS.on (Bs.nil _) (Ts.nil _) (Bs.nil _) (Ts.nil _)) ?_)
  rintro _ w M2 hS hG2 ⟨daq1, dcq1, laq1, lcq1, rfl, hdq1, hsq1⟩
  refine WL.step rfl (Stp.alloc (cs := #[.int .i64 ((0 : Nat) : Int), .slice (none) (0) (0), Go.E.str ([]), .int .i64 ((0 : Nat) : Int), .slice (none) (0) (0)]) rfl zt35 rfl rfl rfl hS ?_)
  intro b1_2 w hbb1_2 hS hkp hnw
  refine WL.step rfl (Stp.storeAll 0 rfl rfl rfl (sz35) (Tm.of hdq1 hsq1).one rfl hS rfl rfl ?_)
  intro w hS hpt
  change St w0 _ M2 ([(b1_2, .cells (TV ((T.mk 4 (List.replicate 16 0) [] 3 [(T.mk 2 [] ([107]) 0 []), (T.mk 2 [] ([109]) 0 [])])) daq1 dcq1 laq1 lcq1) 35 (0, 0))]) at hS
  obtain ⟨M4, hG4, hbb1_2_4, hS⟩ : ∃ Mx, Grow w0.heap.size M2 Mx ∧ Kb Mx b1_2 (.cells (TV ((T.mk 4 (List.replicate 16 0) [] 3 [(T.mk 2 [] ([107]) 0 []), (T.mk 2 [] ([109]) 0 [])])) daq1 dcq1 laq1 lcq1) 35 (0, 0)) ∧ St w0 w Mx ([]) := by
    have hF := hS.freezeG (i := 0) rfl hbb1_2
    exact ⟨_, hF.2, PH.add_self _ _ _, hF.1⟩
  refine WL.nil (Thn_n ?_)
  refine CW.seq ?_
  have hS := hS.drew
  have hK0 : On M4 w := hS.on
  refine CW.held (fun w => On M4 w) mixed ?_
  refine AL.take 1 rfl (by kernel_rfl) (by kernel_rfl) (by kernel_rfl) rfl rfl rfl hK0 (fun w hK => Res.loadAll (cs := TV ((T.mk 4 (List.replicate 16 0) [] 3 [(T.mk 2 [] ([107]) 0 []), (T.mk 2 [] ([109]) 0 [])])) daq1 dcq1 laq1 lcq1) rfl rfl underlying35 rfl sz35 (hK.st.on _ _ hbb1_2_4)) ?_
  refine AL.one 0 rfl (by kernel_rfl) rfl (Stp.callG (args := [Go.E.str ([109])]) rfl rfl rfl cal53 rfl rfl hS (secret_ok ([109]) _ _ hS.on) ?_)
  rintro _ w _ hS _ ⟨rfl, rfl⟩
  have hK0 : On M4 w := hS.on
  refine ⟨hK0, ?_⟩
  refine AL.one 2 rfl (by kernel_rfl) rfl (Stp.callG (args := [Go.E.str ([107])]) rfl rfl rfl cal53 rfl rfl hS (secret_ok ([107]) _ _ hS.on) ?_)
  rintro _ w _ hS _ ⟨rfl, rfl⟩
  have hK0 : On M4 w := hS.on
  refine ⟨hK0, ?_⟩
  refine AL.one 3 rfl (by kernel_rfl) rfl (Stp.lit (vals := [(0, .agg (TV ((T.mk 4 (List.replicate 16 0) [] 3 [(T.mk 2 [] ([107]) 0 []), (T.mk 2 [] ([109]) 0 [])])) daq1 dcq1 laq1 lcq1)), (1, .agg (TV ((T.mk 2 [] ([107]) 0 [])) none (0) none (0)))]) (cs := #[.int .i64 ((T.mk 4 (List.replicate 16 0) [] 3 [(T.mk 2 [] ([107]) 0 []), (T.mk 2 [] ([109]) 0 [])]).kind), .slice (daq1) ((T.mk 4 (List.replicate 16 0) [] 3 [(T.mk 2 [] ([107]) 0 []), (T.mk 2 [] ([109]) 0 [])]).data.length) (dcq1), Go.E.str ((T.mk 4 (List.replicate 16 0) [] 3 [(T.mk 2 [] ([107]) 0 []), (T.mk 2 [] ([109]) 0 [])]).name), .int .i64 ((T.mk 4 (List.replicate 16 0) [] 3 [(T.mk 2 [] ([107]) 0 []), (T.mk 2 [] ([109]) 0 [])]).num), .slice (laq1) ((T.mk 4 (List.replicate 16 0) [] 3 [(T.mk 2 [] ([107]) 0 []), (T.mk 2 [] ([109]) 0 [])]).subs.length) (lcq1), .int .i64 ((T.mk 2 [] ([107]) 0 []).kind), .slice (none) ((T.mk 2 [] ([107]) 0 []).data.length) (0), Go.E.str ((T.mk 2 [] ([107]) 0 []).name), .int .i64 ((T.mk 2 [] ([107]) 0 []).num), .slice (none) ((T.mk 2 [] ([107]) 0 []).subs.length) (0)]) (e := 35) rfl rfl (fun _ => by kernel_rfl) rfl rfl hS ?_)
  intro b17_5 w hbb17_5 hS hkp hnw
  obtain ⟨M7, hG7, hbb17_5_7, hS⟩ : ∃ Mx, Grow w0.heap.size M4 Mx ∧ Kb Mx b17_5 (.cells (#[.int .i64 ((T.mk 4 (List.replicate 16 0) [] 3 [(T.mk 2 [] ([107]) 0 []), (T.mk 2 [] ([109]) 0 [])]).kind), .slice (daq1) ((T.mk 4 (List.replicate 16 0) [] 3 [(T.mk 2 [] ([107]) 0 []), (T.mk 2 [] ([109]) 0 [])]).data.length) (dcq1), Go.E.str ((T.mk 4 (List.replicate 16 0) [] 3 [(T.mk 2 [] ([107]) 0 []), (T.mk 2 [] ([109]) 0 [])]).name), .int .i64 ((T.mk 4 (List.replicate 16 0) [] 3 [(T.mk 2 [] ([107]) 0 []), (T.mk 2 [] ([109]) 0 [])]).num), .slice (laq1) ((T.mk 4 (List.replicate 16 0) [] 3 [(T.mk 2 [] ([107]) 0 []), (T.mk 2 [] ([109]) 0 [])]).subs.length) (lcq1), .int .i64 ((T.mk 2 [] ([107]) 0 []).kind), .slice (none) ((T.mk 2 [] ([107]) 0 []).data.length) (0), Go.E.str ((T.mk 2 [] ([107]) 0 []).name), .int .i64 ((T.mk 2 [] ([107]) 0 []).num), .slice (none) ((T.mk 2 [] ([107]) 0 []).subs.length) (0)]) 35 (0, 0)) ∧ St w0 w Mx ([]) := by
    have hF := hS.freezeG (i := 0) rfl hbb17_5
    exact ⟨_, hF.2, PH.add_self _ _ _, hF.1⟩
  have hl8 : Ts M7 (.slice (some ⟨b17_5, 0, none⟩) (2) (2)) [(T.mk 4 (List.replicate 16 0) [] 3 [(T.mk 2 [] ([107]) 0 []), (T.mk 2 [] ([109]) 0 [])]), (T.mk 2 [] ([107]) 0 [])] := Ts2.lit2 hbb17_5_7 (Tm.of (hdq1.mono (hG4.trans hG7).1) (hsq1.mono (hG4.trans hG7).1)) (Tm.of (Bs.nil _) (Ts.nil _)) rfl
  have hK0 : On M4 w := (hS.known hG7.1).on
  refine ⟨hK0, ?_⟩
  refine AL.one 4 rfl (by kernel_rfl) rfl (Stp.callG (args := [.agg (TV ((T.mk 2 [] ([109]) 0 [])) none (0) none (0)), .slice (some ⟨b17_5, 0, none⟩) (2) (2)]) rfl rfl rfl cal19 rfl rfl hS (Tcan_ok ([(T.mk 4 (List.replicate 16 0) [] 3 [(T.mk 2 [] ([107]) 0 []), (T.mk 2 [] ([109]) 0 [])]), (T.mk 2 [] ([107]) 0 [])]) (T.mk 2 [] ([109]) 0 []) _ _ _ _ _ _ _ _ hS.on (hgl.mono ((hG2.trans hG4).trans hG7).1) (hge.mono ((hG2.trans hG4).trans hG7).1) hl8 (Bs.nil _) (Ts.nil _) (fun t ht => by simp only [List.mem_cons, List.not_mem_nil, or_false] at ht; rcases ht with rfl | rfl <;> first | exact fine_wx | exact fine_wk) fine_wm) ?_)
  rintro _ w _ hS _ ⟨rfl, rfl⟩
  have hK0 : On M4 w := (hS.known hG7.1).on
  refine ⟨hK0, ?_⟩
  refine AL.take 5 rfl (by kernel_rfl) (by kernel_rfl) (by kernel_rfl) rfl rfl rfl hK0 (fun w hK => Res.move rfl rfl) ?_
  refine AL.take 6 rfl (by kernel_rfl) (by kernel_rfl) (by kernel_rfl) rfl rfl rfl hK0 (fun w hK => Res.extract (l := [_, _]) rfl rfl rfl) ?_
  refine AL.take 7 rfl (by kernel_rfl) (by kernel_rfl) (by kernel_rfl) rfl rfl rfl hK0 (fun w hK => Res.extract (l := [_, _]) rfl rfl rfl) ?_
  refine AL.take 8 rfl (by kernel_rfl) (by kernel_rfl) (by kernel_rfl) rfl rfl rfl hK0 (fun w hK => Res.assign rfl rfl) ?_
  refine AL.take 9 rfl (by kernel_rfl) (by kernel_rfl) (by kernel_rfl) rfl rfl rfl hK0 (fun w hK => Res.assign rfl rfl) ?_
  refine AL.done (by kernel_rfl) (Thn_n ?_)
  refine CW.seq ?_
  have hS := hS.drew
  have hK0 : On M7 w := hS.on
  refine CW.held (fun w => On M7 w) mixed ?_
  refine AL.take 1 rfl (by kernel_rfl) (by kernel_rfl) (by kernel_rfl) rfl rfl rfl hK0 (fun w hK => Res.loadAll (cs := TV ((T.mk 4 (List.replicate 16 0) [] 3 [(T.mk 2 [] ([107]) 0 []), (T.mk 2 [] ([109]) 0 [])])) daq1 dcq1 laq1 lcq1) rfl rfl underlying35 rfl sz35 (hK.st.on _ _ (hbb1_2_4.mono hG7.1))) ?_
  refine AL.twoG 0 2 rfl rfl (by kernel_rfl) (Wan.none rfl) (Wan.none rfl) ?_ ?_
  · refine Stp.callG (args := [Go.E.str ([109])]) rfl rfl rfl cal53 rfl rfl hS (secret_ok ([109]) _ _ hS.on) ?_
    rintro _ w _ hS _ ⟨rfl, rfl⟩
    have hK0 : On M7 w := hS.on
    refine ⟨hK0, ?_⟩
    refine AL.one 2 rfl (by kernel_rfl) rfl (Stp.lit (vals := [(0, .agg (TV ((T.mk 4 (List.replicate 16 0) [] 3 [(T.mk 2 [] ([107]) 0 []), (T.mk 2 [] ([109]) 0 [])])) daq1 dcq1 laq1 lcq1))]) (cs := TV ((T.mk 4 (List.replicate 16 0) [] 3 [(T.mk 2 [] ([107]) 0 []), (T.mk 2 [] ([109]) 0 [])])) daq1 dcq1 laq1 lcq1) (e := 35) rfl rfl (fun _ => by kernel_rfl) rfl rfl hS ?_)
    intro b24_9 w hbb24_9 hS hkp hnw
    obtain ⟨M11, hG11, hbb24_9_11, hS⟩ : ∃ Mx, Grow w0.heap.size M7 Mx ∧ Kb Mx b24_9 (.cells (TV ((T.mk 4 (List.replicate 16 0) [] 3 [(T.mk 2 [] ([107]) 0 []), (T.mk 2 [] ([109]) 0 [])])) daq1 dcq1 laq1 lcq1) 35 (0, 0)) ∧ St w0 w Mx ([]) := by
      have hF := hS.freezeG (i := 0) rfl hbb24_9
      exact ⟨_, hF.2, PH.add_self _ _ _, hF.1⟩
    have hl12 : Ts M11 (.slice (some ⟨b24_9, 0, none⟩) (1) (1)) [(T.mk 4 (List.replicate 16 0) [] 3 [(T.mk 2 [] ([107]) 0 []), (T.mk 2 [] ([109]) 0 [])])] := Ts2.lit1 hbb24_9_11 (Tm.of (hdq1.mono ((hG4.trans hG7).trans hG11).1) (hsq1.mono ((hG4.trans hG7).trans hG11).1))
    have hK0 : On M7 w := (hS.known hG11.1).on
    refine ⟨hK0, ?_⟩
    refine AL.one 3 rfl (by kernel_rfl) rfl (Stp.callG (args := [.agg (TV ((T.mk 2 [] ([109]) 0 [])) none (0) none (0)), .slice (some ⟨b24_9, 0, none⟩) (1) (1)]) rfl rfl rfl cal19 rfl rfl hS (Tcan_ok ([(T.mk 4 (List.replicate 16 0) [] 3 [(T.mk 2 [] ([107]) 0 []), (T.mk 2 [] ([109]) 0 [])])]) (T.mk 2 [] ([109]) 0 []) _ _ _ _ _ _ _ _ hS.on (hgl.mono (((hG2.trans hG4).trans hG7).trans hG11).1) (hge.mono (((hG2.trans hG4).trans hG7).trans hG11).1) hl12 (Bs.nil _) (Ts.nil _) (fun t ht => by simp only [List.mem_cons, List.not_mem_nil, or_false] at ht; rcases ht with rfl; exact fine_wx) fine_wm) ?_)
    rintro _ w _ hS _ ⟨rfl, rfl⟩
    have hK0 : On M7 w := (hS.known hG11.1).on
    refine ⟨hK0, ?_⟩
    refine AL.take 4 rfl (by kernel_rfl) (by kernel_rfl) (by kernel_rfl) rfl rfl rfl hK0 (fun w hK => Res.move rfl rfl) ?_
    refine AL.take 5 rfl (by kernel_rfl) (by kernel_rfl) (by kernel_rfl) rfl rfl rfl hK0 (fun w hK => Res.extract (l := [_, _]) rfl rfl rfl) ?_
    refine AL.take 6 rfl (by kernel_rfl) (by kernel_rfl) (by kernel_rfl) rfl rfl rfl hK0 (fun w hK => Res.extract (l := [_, _]) rfl rfl rfl) ?_
    refine AL.take 7 rfl (by kernel_rfl) (by kernel_rfl) (by kernel_rfl) rfl rfl rfl hK0 (fun w hK => Res.assign rfl rfl) ?_
    refine AL.take 8 rfl (by kernel_rfl) (by kernel_rfl) (by kernel_rfl) rfl rfl rfl hK0 (fun w hK => Res.assign rfl rfl) ?_
    refine AL.done (by kernel_rfl) (Thn_n ?_)
    refine CW.seq ?_
    have hce : chkE ([(T.mk 4 (List.replicate 16 0) [] 3 [(T.mk 2 [] ([107]) 0 []), (T.mk 2 [] ([109]) 0 [])]), (T.mk 2 [] ([107]) 0 [])]) = 0 := chk_two
    have hS := hS.drew
    have hK0 : On M11 w := hS.on
    refine CW.held (fun w => On M11 w) mixed ?_
    refine AL.take 0 rfl (by kernel_rfl) (by kernel_rfl) (by kernel_rfl) rfl rfl rfl hK0 (fun w hK => Res.loadAll (cs := TV ((T.mk 4 (List.replicate 16 0) [] 3 [(T.mk 2 [] ([107]) 0 []), (T.mk 2 [] ([109]) 0 [])])) daq1 dcq1 laq1 lcq1) rfl rfl underlying35 rfl sz35 (hK.st.on _ _ (hbb1_2_4.mono (hG7.trans hG11).1))) ?_
    refine AL.one 1 rfl (by kernel_rfl) rfl (Stp.callG (args := [Go.E.str ([107])]) rfl rfl rfl cal53 rfl rfl hS (secret_ok ([107]) _ _ hS.on) ?_)
    rintro _ w _ hS _ ⟨rfl, rfl⟩
    have hK0 : On M11 w := hS.on
    refine ⟨hK0, ?_⟩
    refine AL.one 2 rfl (by kernel_rfl) rfl (Stp.lit (vals := [(0, .agg (TV ((T.mk 4 (List.replicate 16 0) [] 3 [(T.mk 2 [] ([107]) 0 []), (T.mk 2 [] ([109]) 0 [])])) daq1 dcq1 laq1 lcq1)), (1, .agg (TV ((T.mk 2 [] ([107]) 0 [])) none (0) none (0)))]) (cs := #[.int .i64 ((T.mk 4 (List.replicate 16 0) [] 3 [(T.mk 2 [] ([107]) 0 []), (T.mk 2 [] ([109]) 0 [])]).kind), .slice (daq1) ((T.mk 4 (List.replicate 16 0) [] 3 [(T.mk 2 [] ([107]) 0 []), (T.mk 2 [] ([109]) 0 [])]).data.length) (dcq1), Go.E.str ((T.mk 4 (List.replicate 16 0) [] 3 [(T.mk 2 [] ([107]) 0 []), (T.mk 2 [] ([109]) 0 [])]).name), .int .i64 ((T.mk 4 (List.replicate 16 0) [] 3 [(T.mk 2 [] ([107]) 0 []), (T.mk 2 [] ([109]) 0 [])]).num), .slice (laq1) ((T.mk 4 (List.replicate 16 0) [] 3 [(T.mk 2 [] ([107]) 0 []), (T.mk 2 [] ([109]) 0 [])]).subs.length) (lcq1), .int .i64 ((T.mk 2 [] ([107]) 0 []).kind), .slice (none) ((T.mk 2 [] ([107]) 0 []).data.length) (0), Go.E.str ((T.mk 2 [] ([107]) 0 []).name), .int .i64 ((T.mk 2 [] ([107]) 0 []).num), .slice (none) ((T.mk 2 [] ([107]) 0 []).subs.length) (0)]) (e := 35) rfl rfl (fun _ => by kernel_rfl) rfl rfl hS ?_)
    intro b31_13 w hbb31_13 hS hkp hnw
    obtain ⟨M15, hG15, hbb31_13_15, hS⟩ : ∃ Mx, Grow w0.heap.size M11 Mx ∧ Kb Mx b31_13 (.cells (#[.int .i64 ((T.mk 4 (List.replicate 16 0) [] 3 [(T.mk 2 [] ([107]) 0 []), (T.mk 2 [] ([109]) 0 [])]).kind), .slice (daq1) ((T.mk 4 (List.replicate 16 0) [] 3 [(T.mk 2 [] ([107]) 0 []), (T.mk 2 [] ([109]) 0 [])]).data.length) (dcq1), Go.E.str ((T.mk 4 (List.replicate 16 0) [] 3 [(T.mk 2 [] ([107]) 0 []), (T.mk 2 [] ([109]) 0 [])]).name), .int .i64 ((T.mk 4 (List.replicate 16 0) [] 3 [(T.mk 2 [] ([107]) 0 []), (T.mk 2 [] ([109]) 0 [])]).num), .slice (laq1) ((T.mk 4 (List.replicate 16 0) [] 3 [(T.mk 2 [] ([107]) 0 []), (T.mk 2 [] ([109]) 0 [])]).subs.length) (lcq1), .int .i64 ((T.mk 2 [] ([107]) 0 []).kind), .slice (none) ((T.mk 2 [] ([107]) 0 []).data.length) (0), Go.E.str ((T.mk 2 [] ([107]) 0 []).name), .int .i64 ((T.mk 2 [] ([107]) 0 []).num), .slice (none) ((T.mk 2 [] ([107]) 0 []).subs.length) (0)]) 35 (0, 0)) ∧ St w0 w Mx ([]) := by
      have hF := hS.freezeG (i := 0) rfl hbb31_13
      exact ⟨_, hF.2, PH.add_self _ _ _, hF.1⟩
    have hl16 : Ts M15 (.slice (some ⟨b31_13, 0, none⟩) (2) (2)) [(T.mk 4 (List.replicate 16 0) [] 3 [(T.mk 2 [] ([107]) 0 []), (T.mk 2 [] ([109]) 0 [])]), (T.mk 2 [] ([107]) 0 [])] := Ts2.lit2 hbb31_13_15 (Tm.of (hdq1.mono (((hG4.trans hG7).trans hG11).trans hG15).1) (hsq1.mono (((hG4.trans hG7).trans hG11).trans hG15).1)) (Tm.of (Bs.nil _) (Ts.nil _)) rfl
    have hK0 : On M11 w := (hS.known hG15.1).on
    refine ⟨hK0, ?_⟩
    refine AL.one 3 rfl (by kernel_rfl) rfl (Stp.callG (args := [.slice (some ⟨b31_13, 0, none⟩) (2) (2)]) rfl rfl rfl cal15 rfl rfl hS ((Tapart_ok ([(T.mk 4 (List.replicate 16 0) [] 3 [(T.mk 2 [] ([107]) 0 []), (T.mk 2 [] ([109]) 0 [])]), (T.mk 2 [] ([107]) 0 [])]) _ _ _ _ hS.on (hgl.mono ((((hG2.trans hG4).trans hG7).trans hG11).trans hG15).1) (hge.mono ((((hG2.trans hG4).trans hG7).trans hG11).trans hG15).1) hl16 (fun t ht => by simp only [List.mem_cons, List.not_mem_nil, or_false] at ht; rcases ht with rfl | rfl <;> first | exact fine_wx | exact fine_wk)).imp (Ψ := fun M8 r => ∃ a c, r = .tuple #[.slice a (apartT ([(T.mk 4 (List.replicate 16 0) [] 3 [(T.mk 2 [] ([107]) 0 []), (T.mk 2 [] ([109]) 0 [])]), (T.mk 2 [] ([107]) 0 [])])).length c, .int .i64 0] ∧ Ts M8 (.slice a (apartT ([(T.mk 4 (List.replicate 16 0) [] 3 [(T.mk 2 [] ([107]) 0 []), (T.mk 2 [] ([109]) 0 [])]), (T.mk 2 [] ([107]) 0 [])])).length c) (apartT ([(T.mk 4 (List.replicate 16 0) [] 3 [(T.mk 2 [] ([107]) 0 []), (T.mk 2 [] ([109]) 0 [])]), (T.mk 2 [] ([107]) 0 [])]))) (fun M8 v _ h => h.good hce)) ?_)
    rintro _ w M18 hS hG18 ⟨aap17, cap17, rfl, hap17⟩
    have hK0 : On M11 w := (hS.known (hG15.trans hG18).1).on
    refine ⟨hK0, ?_⟩
    refine AL.take 4 rfl (by kernel_rfl) (by kernel_rfl) (by kernel_rfl) rfl rfl rfl hK0 (fun w hK => Res.move rfl rfl) ?_
    refine AL.take 5 rfl (by kernel_rfl) (by kernel_rfl) (by kernel_rfl) rfl rfl rfl hK0 (fun w hK => Res.extract (l := [_, _]) rfl rfl rfl) ?_
    refine AL.take 6 rfl (by kernel_rfl) (by kernel_rfl) (by kernel_rfl) rfl rfl rfl hK0 (fun w hK => Res.extract (l := [_, _]) rfl rfl rfl) ?_
    refine AL.take 7 rfl (by kernel_rfl) (by kernel_rfl) (by kernel_rfl) rfl rfl rfl hK0 (fun w hK => Res.assign rfl rfl) ?_
    refine AL.take 8 rfl (by kernel_rfl) (by kernel_rfl) (by kernel_rfl) rfl rfl rfl hK0 (fun w hK => Res.assign rfl rfl) ?_
    refine AL.done (by kernel_rfl) (Thn_n ?_)
    refine CW.seq ?_
    obtain ⟨b, hbb⟩ : ∃ b : List UInt8, b = [7, 8] := ⟨_, rfl⟩
    have hbr : bytesR (T.mk 1 [7, 8] [] 0 []) = some b := by rw [hbb]; exact bytes_wd
    refine CW.region ?_
    refine WL.step rfl (Stp.lit (vals := [(0, byte (7)), (1, byte (8))]) (cs := bs [7, 8]) (e := 5) rfl rfl (fun _ => by kernel_rfl) rfl rfl hS ?_)
    intro b36_18 w hbb36_18 hS hkp hnw
    obtain ⟨M20, hG20, hbb36_18_20, hS⟩ : ∃ Mx, Grow w0.heap.size M18 Mx ∧ Kb Mx b36_18 (.cells (bs [7, 8]) 5 (0, 0)) ∧ St w0 w Mx ([]) := by
      have hF := hS.freezeG (i := 0) rfl hbb36_18
      exact ⟨_, hF.2, PH.add_self _ _ _, hF.1⟩
    refine WL.step rfl (Stp.callG (args := [.slice (some ⟨b36_18, 0, none⟩) (2) (2)]) rfl rfl rfl cal54 rfl rfl hS (data_ok ([7, 8]) _ _ _ _ hS.on) ?_)
    rintro _ w _ hS _ ⟨rfl, rfl⟩
    refine WL.step rfl (Stp.callG (args := [.agg (TV ((T.mk 1 ([7, 8]) [] 0 [])) (some ⟨b36_18, 0, none⟩) (2) none (0))]) rfl rfl rfl cal20 rfl rfl hS ((by have h := Tbytes_ok (T.mk 1 ([7, 8]) [] 0 []) _ _ _ _ _ _ hS.on (hgl.mono ((((((hG2.trans hG4).trans hG7).trans hG11).trans hG15).trans hG18).trans hG20).1) (hge.mono ((((((hG2.trans hG4).trans hG7).trans hG11).trans hG15).trans hG18).trans hG20).1) (Bs.of' hbb36_18_20 rfl (by decide)) (Ts.nil _) fine_wd; rw [hbr] at h; exact h)) ?_)
    rintro _ w M22 hS hG22 ⟨ay21, cy21, rfl, hy21⟩
    refine WL.step rfl (Stp.res rfl rfl (Res.move rfl rfl) ?_)
    refine WL.step rfl (Stp.res rfl rfl (Res.extract (l := [_, _]) rfl rfl rfl) ?_)
    refine WL.step rfl (Stp.res rfl rfl (Res.extract (l := [_, _]) rfl rfl rfl) ?_)
    refine WL.step rfl (Stp.res rfl rfl (Res.assign rfl rfl) ?_)
    refine WL.step rfl (Stp.res rfl rfl (Res.assign rfl rfl) ?_)
    refine WL.nil (Thn_n ?_)
    refine CW.seq ?_
    refine CW.region ?_
    refine WL.step rfl (Stp.res rfl rfl (Res.move rfl rfl) ?_)
    refine WL.step rfl (Stp.res rfl rfl (Res.move rfl rfl) ?_)
    refine WL.stepG 1 true rfl rfl rfl (bT (works_a)) (Stp.res rfl rfl (Res.move rfl rfl) ?_)
    refine WL.stepG 1 true rfl rfl rfl (bT (works_a)) (Stp.res rfl rfl (Res.eql rfl rfl rfl) ?_)
    refine WL.step rfl (Stp.res rfl rfl (Res.pickT rfl (bT (works_a)) rfl) ?_)
    refine WL.step rfl (Stp.res rfl rfl (Res.move rfl rfl) ?_)
    refine WL.stepG 5 true rfl rfl rfl (bT (works_a.1)) (Stp.res rfl rfl (Res.move rfl rfl) ?_)
    refine WL.stepG 5 true rfl rfl rfl (bT (works_a.1)) (Stp.res rfl rfl (Res.not (b := false) rfl rfl (bF (works_b))) ?_)
    refine WL.step rfl (Stp.res rfl rfl (Res.pickT rfl (bT (works_a.1)) rfl) ?_)
    refine WL.step rfl (Stp.res rfl rfl (Res.move rfl rfl) ?_)
    refine WL.stepG 9 true rfl rfl rfl rfl (Stp.res rfl rfl (Res.move rfl rfl) ?_)
    refine WL.stepG 9 true rfl rfl rfl rfl (Stp.res rfl rfl (Res.eql rfl rfl rfl) ?_)
    refine WL.step rfl (Stp.res rfl rfl (Res.pickT rfl rfl rfl) ?_)
    refine WL.step rfl (Stp.res rfl rfl (Res.move rfl rfl) ?_)
    refine WL.stepG 13 true rfl rfl rfl (bT (works_f)) (Stp.res rfl rfl (Res.move rfl rfl) ?_)
    refine WL.stepG 13 true rfl rfl rfl (bT (works_f)) (Stp.res rfl rfl (Res.len rfl rfl rfl rfl underlying22) ?_)
    refine WL.stepG 13 true rfl rfl rfl (bT (works_f)) (Stp.res rfl rfl (Res.eql rfl rfl rfl) ?_)
    refine WL.step rfl (Stp.res rfl rfl (Res.pickT rfl (bT (works_f)) rfl) ?_)
    refine WL.step rfl (Stp.res rfl rfl (Res.move rfl rfl) ?_)
    refine WL.stepG 18 true rfl rfl rfl (bT ((congrArg (fun z : Nat => (z : Int)) works_l))) (Stp.res rfl rfl (Res.move rfl rfl) ?_)
    refine WL.stepG 18 true rfl rfl rfl (bT ((congrArg (fun z : Nat => (z : Int)) works_l))) (Stp.res rfl rfl (Res.eql rfl rfl rfl) ?_)
    refine WL.step rfl (Stp.res rfl rfl (Res.pickT rfl (bT ((congrArg (fun z : Nat => (z : Int)) works_l))) rfl) ?_)
    refine WL.step rfl (Stp.res rfl rfl (Res.move rfl rfl) ?_)
    refine WL.stepG 22 true rfl rfl rfl (bT (rfl)) (Stp.res rfl rfl (Res.move rfl rfl) ?_)
    refine WL.stepG 22 true rfl rfl rfl (bT (rfl)) (Stp.lit (vals := [(0, byte (7)), (1, byte (8))]) (cs := bs [7, 8]) (e := 5) rfl rfl (fun _ => by kernel_rfl) rfl rfl hS ?_)
    intro b65_22 w hbb65_22 hS hkp hnw
    obtain ⟨M24, hG24, hbb65_22_24, hS⟩ : ∃ Mx, Grow w0.heap.size M22 Mx ∧ Kb Mx b65_22 (.cells (bs [7, 8]) 5 (0, 0)) ∧ St w0 w Mx ([]) := by
      have hF := hS.freezeG (i := 0) rfl hbb65_22
      exact ⟨_, hF.2, PH.add_self _ _ _, hF.1⟩
    refine WL.stepG 22 true rfl rfl rfl (bT (rfl)) (Stp.callA (args := [.slice (ay21) ((b).length) (cy21), .slice (some ⟨b65_22, 0, none⟩) (2) (2)]) rfl rfl rfl cal24 rfl rfl (samebytes_ok _ _ (b) ([7, 8]) M24 _ hS.on (hy21.mono hG24.1) (Bs.of' hbb65_22_24 rfl (by decide))) ?_)
    refine WL.step rfl (Stp.res rfl rfl (Res.pickT rfl (bT (rfl)) rfl) ?_)
    refine WL.step rfl (Stp.res rfl rfl (Res.move rfl rfl) ?_)
    refine WL.stepG 27 true rfl rfl rfl (bT (hbb)) (Stp.res rfl rfl (Res.move rfl rfl) ?_)
    refine WL.stepG 27 true rfl rfl rfl (bT (hbb)) (Stp.res rfl rfl (Res.eql rfl rfl rfl) ?_)
    refine WL.step rfl (Stp.res rfl rfl (Res.pickT rfl (bT (hbb)) rfl) ?_)
    refine WL.step rfl (Stp.res rfl rfl (Res.assign rfl rfl) ?_)
    refine WL.nil (Thn_n ?_)
    refine CW.ret ?_
    exact fq_tmp rfl rfl ⟨M, (hS.known ((((((((hG2.trans hG4).trans hG7).trans hG11).trans hG15).trans hG18).trans hG20).trans hG22).trans hG24).1), PH.le.refl _, Fresh.refl _ _, rfl, rfl⟩
  · refine Stp.lit (vals := [(0, .agg (TV ((T.mk 4 (List.replicate 16 0) [] 3 [(T.mk 2 [] ([107]) 0 []), (T.mk 2 [] ([109]) 0 [])])) daq1 dcq1 laq1 lcq1))]) (cs := TV ((T.mk 4 (List.replicate 16 0) [] 3 [(T.mk 2 [] ([107]) 0 []), (T.mk 2 [] ([109]) 0 [])])) daq1 dcq1 laq1 lcq1) (e := 35) rfl rfl (fun _ => by kernel_rfl) rfl rfl hS ?_
    intro b24_24 w hbb24_24 hS hkp hnw
    obtain ⟨M26, hG26, hbb24_24_26, hS⟩ : ∃ Mx, Grow w0.heap.size M7 Mx ∧ Kb Mx b24_24 (.cells (TV ((T.mk 4 (List.replicate 16 0) [] 3 [(T.mk 2 [] ([107]) 0 []), (T.mk 2 [] ([109]) 0 [])])) daq1 dcq1 laq1 lcq1) 35 (0, 0)) ∧ St w0 w Mx ([]) := by
      have hF := hS.freezeG (i := 0) rfl hbb24_24
      exact ⟨_, hF.2, PH.add_self _ _ _, hF.1⟩
    have hl27 : Ts M26 (.slice (some ⟨b24_24, 0, none⟩) (1) (1)) [(T.mk 4 (List.replicate 16 0) [] 3 [(T.mk 2 [] ([107]) 0 []), (T.mk 2 [] ([109]) 0 [])])] := Ts2.lit1 hbb24_24_26 (Tm.of (hdq1.mono ((hG4.trans hG7).trans hG26).1) (hsq1.mono ((hG4.trans hG7).trans hG26).1))
    have hK0 : On M7 w := (hS.known hG26.1).on
    refine ⟨hK0, ?_⟩
    refine AL.one 0 rfl (by kernel_rfl) rfl (Stp.callG (args := [Go.E.str ([109])]) rfl rfl rfl cal53 rfl rfl hS (secret_ok ([109]) _ _ hS.on) ?_)
    rintro _ w _ hS _ ⟨rfl, rfl⟩
    have hK0 : On M7 w := (hS.known hG26.1).on
    refine ⟨hK0, ?_⟩
    refine AL.one 3 rfl (by kernel_rfl) rfl (Stp.callG (args := [.agg (TV ((T.mk 2 [] ([109]) 0 [])) none (0) none (0)), .slice (some ⟨b24_24, 0, none⟩) (1) (1)]) rfl rfl rfl cal19 rfl rfl hS (Tcan_ok ([(T.mk 4 (List.replicate 16 0) [] 3 [(T.mk 2 [] ([107]) 0 []), (T.mk 2 [] ([109]) 0 [])])]) (T.mk 2 [] ([109]) 0 []) _ _ _ _ _ _ _ _ hS.on (hgl.mono (((hG2.trans hG4).trans hG7).trans hG26).1) (hge.mono (((hG2.trans hG4).trans hG7).trans hG26).1) hl27 (Bs.nil _) (Ts.nil _) (fun t ht => by simp only [List.mem_cons, List.not_mem_nil, or_false] at ht; rcases ht with rfl; exact fine_wx) fine_wm) ?_)
    rintro _ w _ hS _ ⟨rfl, rfl⟩
    have hK0 : On M7 w := (hS.known hG26.1).on
    refine ⟨hK0, ?_⟩
    refine AL.take 4 rfl (by kernel_rfl) (by kernel_rfl) (by kernel_rfl) rfl rfl rfl hK0 (fun w hK => Res.move rfl rfl) ?_
    refine AL.take 5 rfl (by kernel_rfl) (by kernel_rfl) (by kernel_rfl) rfl rfl rfl hK0 (fun w hK => Res.extract (l := [_, _]) rfl rfl rfl) ?_
    refine AL.take 6 rfl (by kernel_rfl) (by kernel_rfl) (by kernel_rfl) rfl rfl rfl hK0 (fun w hK => Res.extract (l := [_, _]) rfl rfl rfl) ?_
    refine AL.take 7 rfl (by kernel_rfl) (by kernel_rfl) (by kernel_rfl) rfl rfl rfl hK0 (fun w hK => Res.assign rfl rfl) ?_
    refine AL.take 8 rfl (by kernel_rfl) (by kernel_rfl) (by kernel_rfl) rfl rfl rfl hK0 (fun w hK => Res.assign rfl rfl) ?_
    refine AL.done (by kernel_rfl) (Thn_n ?_)
    refine CW.seq ?_
    have hce : chkE ([(T.mk 4 (List.replicate 16 0) [] 3 [(T.mk 2 [] ([107]) 0 []), (T.mk 2 [] ([109]) 0 [])]), (T.mk 2 [] ([107]) 0 [])]) = 0 := chk_two
    have hS := hS.drew
    have hK0 : On M26 w := hS.on
    refine CW.held (fun w => On M26 w) mixed ?_
    refine AL.take 0 rfl (by kernel_rfl) (by kernel_rfl) (by kernel_rfl) rfl rfl rfl hK0 (fun w hK => Res.loadAll (cs := TV ((T.mk 4 (List.replicate 16 0) [] 3 [(T.mk 2 [] ([107]) 0 []), (T.mk 2 [] ([109]) 0 [])])) daq1 dcq1 laq1 lcq1) rfl rfl underlying35 rfl sz35 (hK.st.on _ _ (hbb1_2_4.mono (hG7.trans hG26).1))) ?_
    refine AL.one 1 rfl (by kernel_rfl) rfl (Stp.callG (args := [Go.E.str ([107])]) rfl rfl rfl cal53 rfl rfl hS (secret_ok ([107]) _ _ hS.on) ?_)
    rintro _ w _ hS _ ⟨rfl, rfl⟩
    have hK0 : On M26 w := hS.on
    refine ⟨hK0, ?_⟩
    refine AL.one 2 rfl (by kernel_rfl) rfl (Stp.lit (vals := [(0, .agg (TV ((T.mk 4 (List.replicate 16 0) [] 3 [(T.mk 2 [] ([107]) 0 []), (T.mk 2 [] ([109]) 0 [])])) daq1 dcq1 laq1 lcq1)), (1, .agg (TV ((T.mk 2 [] ([107]) 0 [])) none (0) none (0)))]) (cs := #[.int .i64 ((T.mk 4 (List.replicate 16 0) [] 3 [(T.mk 2 [] ([107]) 0 []), (T.mk 2 [] ([109]) 0 [])]).kind), .slice (daq1) ((T.mk 4 (List.replicate 16 0) [] 3 [(T.mk 2 [] ([107]) 0 []), (T.mk 2 [] ([109]) 0 [])]).data.length) (dcq1), Go.E.str ((T.mk 4 (List.replicate 16 0) [] 3 [(T.mk 2 [] ([107]) 0 []), (T.mk 2 [] ([109]) 0 [])]).name), .int .i64 ((T.mk 4 (List.replicate 16 0) [] 3 [(T.mk 2 [] ([107]) 0 []), (T.mk 2 [] ([109]) 0 [])]).num), .slice (laq1) ((T.mk 4 (List.replicate 16 0) [] 3 [(T.mk 2 [] ([107]) 0 []), (T.mk 2 [] ([109]) 0 [])]).subs.length) (lcq1), .int .i64 ((T.mk 2 [] ([107]) 0 []).kind), .slice (none) ((T.mk 2 [] ([107]) 0 []).data.length) (0), Go.E.str ((T.mk 2 [] ([107]) 0 []).name), .int .i64 ((T.mk 2 [] ([107]) 0 []).num), .slice (none) ((T.mk 2 [] ([107]) 0 []).subs.length) (0)]) (e := 35) rfl rfl (fun _ => by kernel_rfl) rfl rfl hS ?_)
    intro b31_28 w hbb31_28 hS hkp hnw
    obtain ⟨M30, hG30, hbb31_28_30, hS⟩ : ∃ Mx, Grow w0.heap.size M26 Mx ∧ Kb Mx b31_28 (.cells (#[.int .i64 ((T.mk 4 (List.replicate 16 0) [] 3 [(T.mk 2 [] ([107]) 0 []), (T.mk 2 [] ([109]) 0 [])]).kind), .slice (daq1) ((T.mk 4 (List.replicate 16 0) [] 3 [(T.mk 2 [] ([107]) 0 []), (T.mk 2 [] ([109]) 0 [])]).data.length) (dcq1), Go.E.str ((T.mk 4 (List.replicate 16 0) [] 3 [(T.mk 2 [] ([107]) 0 []), (T.mk 2 [] ([109]) 0 [])]).name), .int .i64 ((T.mk 4 (List.replicate 16 0) [] 3 [(T.mk 2 [] ([107]) 0 []), (T.mk 2 [] ([109]) 0 [])]).num), .slice (laq1) ((T.mk 4 (List.replicate 16 0) [] 3 [(T.mk 2 [] ([107]) 0 []), (T.mk 2 [] ([109]) 0 [])]).subs.length) (lcq1), .int .i64 ((T.mk 2 [] ([107]) 0 []).kind), .slice (none) ((T.mk 2 [] ([107]) 0 []).data.length) (0), Go.E.str ((T.mk 2 [] ([107]) 0 []).name), .int .i64 ((T.mk 2 [] ([107]) 0 []).num), .slice (none) ((T.mk 2 [] ([107]) 0 []).subs.length) (0)]) 35 (0, 0)) ∧ St w0 w Mx ([]) := by
      have hF := hS.freezeG (i := 0) rfl hbb31_28
      exact ⟨_, hF.2, PH.add_self _ _ _, hF.1⟩
    have hl31 : Ts M30 (.slice (some ⟨b31_28, 0, none⟩) (2) (2)) [(T.mk 4 (List.replicate 16 0) [] 3 [(T.mk 2 [] ([107]) 0 []), (T.mk 2 [] ([109]) 0 [])]), (T.mk 2 [] ([107]) 0 [])] := Ts2.lit2 hbb31_28_30 (Tm.of (hdq1.mono (((hG4.trans hG7).trans hG26).trans hG30).1) (hsq1.mono (((hG4.trans hG7).trans hG26).trans hG30).1)) (Tm.of (Bs.nil _) (Ts.nil _)) rfl
    have hK0 : On M26 w := (hS.known hG30.1).on
    refine ⟨hK0, ?_⟩
    refine AL.one 3 rfl (by kernel_rfl) rfl (Stp.callG (args := [.slice (some ⟨b31_28, 0, none⟩) (2) (2)]) rfl rfl rfl cal15 rfl rfl hS ((Tapart_ok ([(T.mk 4 (List.replicate 16 0) [] 3 [(T.mk 2 [] ([107]) 0 []), (T.mk 2 [] ([109]) 0 [])]), (T.mk 2 [] ([107]) 0 [])]) _ _ _ _ hS.on (hgl.mono ((((hG2.trans hG4).trans hG7).trans hG26).trans hG30).1) (hge.mono ((((hG2.trans hG4).trans hG7).trans hG26).trans hG30).1) hl31 (fun t ht => by simp only [List.mem_cons, List.not_mem_nil, or_false] at ht; rcases ht with rfl | rfl <;> first | exact fine_wx | exact fine_wk)).imp (Ψ := fun M8 r => ∃ a c, r = .tuple #[.slice a (apartT ([(T.mk 4 (List.replicate 16 0) [] 3 [(T.mk 2 [] ([107]) 0 []), (T.mk 2 [] ([109]) 0 [])]), (T.mk 2 [] ([107]) 0 [])])).length c, .int .i64 0] ∧ Ts M8 (.slice a (apartT ([(T.mk 4 (List.replicate 16 0) [] 3 [(T.mk 2 [] ([107]) 0 []), (T.mk 2 [] ([109]) 0 [])]), (T.mk 2 [] ([107]) 0 [])])).length c) (apartT ([(T.mk 4 (List.replicate 16 0) [] 3 [(T.mk 2 [] ([107]) 0 []), (T.mk 2 [] ([109]) 0 [])]), (T.mk 2 [] ([107]) 0 [])]))) (fun M8 v _ h => h.good hce)) ?_)
    rintro _ w M33 hS hG33 ⟨aap32, cap32, rfl, hap32⟩
    have hK0 : On M26 w := (hS.known (hG30.trans hG33).1).on
    refine ⟨hK0, ?_⟩
    refine AL.take 4 rfl (by kernel_rfl) (by kernel_rfl) (by kernel_rfl) rfl rfl rfl hK0 (fun w hK => Res.move rfl rfl) ?_
    refine AL.take 5 rfl (by kernel_rfl) (by kernel_rfl) (by kernel_rfl) rfl rfl rfl hK0 (fun w hK => Res.extract (l := [_, _]) rfl rfl rfl) ?_
    refine AL.take 6 rfl (by kernel_rfl) (by kernel_rfl) (by kernel_rfl) rfl rfl rfl hK0 (fun w hK => Res.extract (l := [_, _]) rfl rfl rfl) ?_
    refine AL.take 7 rfl (by kernel_rfl) (by kernel_rfl) (by kernel_rfl) rfl rfl rfl hK0 (fun w hK => Res.assign rfl rfl) ?_
    refine AL.take 8 rfl (by kernel_rfl) (by kernel_rfl) (by kernel_rfl) rfl rfl rfl hK0 (fun w hK => Res.assign rfl rfl) ?_
    refine AL.done (by kernel_rfl) (Thn_n ?_)
    refine CW.seq ?_
    obtain ⟨b, hbb⟩ : ∃ b : List UInt8, b = [7, 8] := ⟨_, rfl⟩
    have hbr : bytesR (T.mk 1 [7, 8] [] 0 []) = some b := by rw [hbb]; exact bytes_wd
    refine CW.region ?_
    refine WL.step rfl (Stp.lit (vals := [(0, byte (7)), (1, byte (8))]) (cs := bs [7, 8]) (e := 5) rfl rfl (fun _ => by kernel_rfl) rfl rfl hS ?_)
    intro b36_33 w hbb36_33 hS hkp hnw
    obtain ⟨M35, hG35, hbb36_33_35, hS⟩ : ∃ Mx, Grow w0.heap.size M33 Mx ∧ Kb Mx b36_33 (.cells (bs [7, 8]) 5 (0, 0)) ∧ St w0 w Mx ([]) := by
      have hF := hS.freezeG (i := 0) rfl hbb36_33
      exact ⟨_, hF.2, PH.add_self _ _ _, hF.1⟩
    refine WL.step rfl (Stp.callG (args := [.slice (some ⟨b36_33, 0, none⟩) (2) (2)]) rfl rfl rfl cal54 rfl rfl hS (data_ok ([7, 8]) _ _ _ _ hS.on) ?_)
    rintro _ w _ hS _ ⟨rfl, rfl⟩
    refine WL.step rfl (Stp.callG (args := [.agg (TV ((T.mk 1 ([7, 8]) [] 0 [])) (some ⟨b36_33, 0, none⟩) (2) none (0))]) rfl rfl rfl cal20 rfl rfl hS ((by have h := Tbytes_ok (T.mk 1 ([7, 8]) [] 0 []) _ _ _ _ _ _ hS.on (hgl.mono ((((((hG2.trans hG4).trans hG7).trans hG26).trans hG30).trans hG33).trans hG35).1) (hge.mono ((((((hG2.trans hG4).trans hG7).trans hG26).trans hG30).trans hG33).trans hG35).1) (Bs.of' hbb36_33_35 rfl (by decide)) (Ts.nil _) fine_wd; rw [hbr] at h; exact h)) ?_)
    rintro _ w M37 hS hG37 ⟨ay36, cy36, rfl, hy36⟩
    refine WL.step rfl (Stp.res rfl rfl (Res.move rfl rfl) ?_)
    refine WL.step rfl (Stp.res rfl rfl (Res.extract (l := [_, _]) rfl rfl rfl) ?_)
    refine WL.step rfl (Stp.res rfl rfl (Res.extract (l := [_, _]) rfl rfl rfl) ?_)
    refine WL.step rfl (Stp.res rfl rfl (Res.assign rfl rfl) ?_)
    refine WL.step rfl (Stp.res rfl rfl (Res.assign rfl rfl) ?_)
    refine WL.nil (Thn_n ?_)
    refine CW.seq ?_
    refine CW.region ?_
    refine WL.step rfl (Stp.res rfl rfl (Res.move rfl rfl) ?_)
    refine WL.step rfl (Stp.res rfl rfl (Res.move rfl rfl) ?_)
    refine WL.stepG 1 true rfl rfl rfl (bT (works_a)) (Stp.res rfl rfl (Res.move rfl rfl) ?_)
    refine WL.stepG 1 true rfl rfl rfl (bT (works_a)) (Stp.res rfl rfl (Res.eql rfl rfl rfl) ?_)
    refine WL.step rfl (Stp.res rfl rfl (Res.pickT rfl (bT (works_a)) rfl) ?_)
    refine WL.step rfl (Stp.res rfl rfl (Res.move rfl rfl) ?_)
    refine WL.stepG 5 true rfl rfl rfl (bT (works_a.1)) (Stp.res rfl rfl (Res.move rfl rfl) ?_)
    refine WL.stepG 5 true rfl rfl rfl (bT (works_a.1)) (Stp.res rfl rfl (Res.not (b := false) rfl rfl (bF (works_b))) ?_)
    refine WL.step rfl (Stp.res rfl rfl (Res.pickT rfl (bT (works_a.1)) rfl) ?_)
    refine WL.step rfl (Stp.res rfl rfl (Res.move rfl rfl) ?_)
    refine WL.stepG 9 true rfl rfl rfl rfl (Stp.res rfl rfl (Res.move rfl rfl) ?_)
    refine WL.stepG 9 true rfl rfl rfl rfl (Stp.res rfl rfl (Res.eql rfl rfl rfl) ?_)
    refine WL.step rfl (Stp.res rfl rfl (Res.pickT rfl rfl rfl) ?_)
    refine WL.step rfl (Stp.res rfl rfl (Res.move rfl rfl) ?_)
    refine WL.stepG 13 true rfl rfl rfl (bT (works_f)) (Stp.res rfl rfl (Res.move rfl rfl) ?_)
    refine WL.stepG 13 true rfl rfl rfl (bT (works_f)) (Stp.res rfl rfl (Res.len rfl rfl rfl rfl underlying22) ?_)
    refine WL.stepG 13 true rfl rfl rfl (bT (works_f)) (Stp.res rfl rfl (Res.eql rfl rfl rfl) ?_)
    refine WL.step rfl (Stp.res rfl rfl (Res.pickT rfl (bT (works_f)) rfl) ?_)
    refine WL.step rfl (Stp.res rfl rfl (Res.move rfl rfl) ?_)
    refine WL.stepG 18 true rfl rfl rfl (bT ((congrArg (fun z : Nat => (z : Int)) works_l))) (Stp.res rfl rfl (Res.move rfl rfl) ?_)
    refine WL.stepG 18 true rfl rfl rfl (bT ((congrArg (fun z : Nat => (z : Int)) works_l))) (Stp.res rfl rfl (Res.eql rfl rfl rfl) ?_)
    refine WL.step rfl (Stp.res rfl rfl (Res.pickT rfl (bT ((congrArg (fun z : Nat => (z : Int)) works_l))) rfl) ?_)
    refine WL.step rfl (Stp.res rfl rfl (Res.move rfl rfl) ?_)
    refine WL.stepG 22 true rfl rfl rfl (bT (rfl)) (Stp.res rfl rfl (Res.move rfl rfl) ?_)
    refine WL.stepG 22 true rfl rfl rfl (bT (rfl)) (Stp.lit (vals := [(0, byte (7)), (1, byte (8))]) (cs := bs [7, 8]) (e := 5) rfl rfl (fun _ => by kernel_rfl) rfl rfl hS ?_)
    intro b65_37 w hbb65_37 hS hkp hnw
    obtain ⟨M39, hG39, hbb65_37_39, hS⟩ : ∃ Mx, Grow w0.heap.size M37 Mx ∧ Kb Mx b65_37 (.cells (bs [7, 8]) 5 (0, 0)) ∧ St w0 w Mx ([]) := by
      have hF := hS.freezeG (i := 0) rfl hbb65_37
      exact ⟨_, hF.2, PH.add_self _ _ _, hF.1⟩
    refine WL.stepG 22 true rfl rfl rfl (bT (rfl)) (Stp.callA (args := [.slice (ay36) ((b).length) (cy36), .slice (some ⟨b65_37, 0, none⟩) (2) (2)]) rfl rfl rfl cal24 rfl rfl (samebytes_ok _ _ (b) ([7, 8]) M39 _ hS.on (hy36.mono hG39.1) (Bs.of' hbb65_37_39 rfl (by decide))) ?_)
    refine WL.step rfl (Stp.res rfl rfl (Res.pickT rfl (bT (rfl)) rfl) ?_)
    refine WL.step rfl (Stp.res rfl rfl (Res.move rfl rfl) ?_)
    refine WL.stepG 27 true rfl rfl rfl (bT (hbb)) (Stp.res rfl rfl (Res.move rfl rfl) ?_)
    refine WL.stepG 27 true rfl rfl rfl (bT (hbb)) (Stp.res rfl rfl (Res.eql rfl rfl rfl) ?_)
    refine WL.step rfl (Stp.res rfl rfl (Res.pickT rfl (bT (hbb)) rfl) ?_)
    refine WL.step rfl (Stp.res rfl rfl (Res.assign rfl rfl) ?_)
    refine WL.nil (Thn_n ?_)
    refine CW.ret ?_
    exact fq_tmp rfl rfl ⟨M, (hS.known ((((((((hG2.trans hG4).trans hG7).trans hG26).trans hG30).trans hG33).trans hG35).trans hG37).trans hG39).1), PH.le.refl _, Fresh.refl _ _, rfl, rfl⟩
end Go.Proofs.YtcmgimicdcchlaaGreatDoor
