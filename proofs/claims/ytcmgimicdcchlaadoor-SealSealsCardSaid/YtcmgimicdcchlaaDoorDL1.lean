/- Own text of this seat (DL1): lemmas on the way to the statement; no condition of its own. -/
import Derived.Test.YtcmgimicdcchlaaDoorDL0
set_option linter.unusedVariables false
set_option maxRecDepth 20000
namespace Go.Proofs.YtcmgimicdcchlaaDoor
open Go Go.E
theorem among_ok (x : Int) (n : Nat) (hn : 0 < n ∧ n ≤ 4611686018427387904) (w : World) : Calls Tryd.prog 11 #[.int .i64 x, .int .i64 (n : Int)] w fun e w' => ∃ v, e = .returned v ∧ v = .int .i64 ((Seal.amg x n : Nat) : Int) ∧ w' = w := by
  refine enter (l := [.int .i64 x, .int .i64 (n : Int)]) 13 Tryd.func11 rfl Tryd.ntmps11 rfl ?_
  refine CW.seq ?_
  refine CW.region ?_
  refine WL.step rfl (Stp.res rfl rfl (Res.assign rfl rfl) ?_)
  refine WL.nil (Thn_n ?_)
  refine CW.seq ?_
  refine CW.seq ?_
  refine CW.region ?_
  refine WL.step rfl (Stp.res rfl rfl (Res.move rfl rfl) ?_)
  refine WL.step rfl (Stp.res rfl rfl (Res.lss rfl rfl rfl) ?_)
  refine WL.nil (Thn_n ?_)
  refine CW.iteF rfl (by omega) ?_
  refine CW.skip (Thn_n ?_)
  refine CW.seq ?_
  refine CW.region ?_
  refine WL.step rfl (Stp.res rfl rfl (Res.move rfl rfl) ?_)
  refine WL.step rfl (Stp.res rfl rfl (Res.cast (Res.conv (k := .u64) rfl rfl Tryd.underlying3 Tryd.underlying58) (v' := .int .u64 (((x % 18446744073709551616).toNat : Nat) : Int)) (by congr 1; rw [uk64.wrapI]; omega)) ?_)
  refine WL.step rfl (Stp.res rfl rfl (Res.move rfl rfl) ?_)
  refine WL.step rfl (Stp.res rfl rfl (Res.convW (a := n) uk64 rfl rfl Tryd.underlying3 Tryd.underlying58 (by omega)) ?_)
  refine WL.step rfl (Stp.res rfl rfl (Res.remU (a := (x % 18446744073709551616).toNat) (b := n) rfl rfl rfl hn.1) ?_)
  refine WL.step rfl (Stp.res rfl rfl (Res.cast (Res.conv (k := .i64) rfl rfl Tryd.underlying58 Tryd.underlying3) (v' := .int .i64 ((Seal.amg x n : Nat) : Int)) (by congr 1; have := Seal.amg_lt x hn.1; rw [wrap_i64 (by unfold Seal.amg at this; omega), Seal.amg])) ?_)
  refine WL.step rfl (Stp.res rfl rfl (Res.assign rfl rfl) ?_)
  refine WL.nil (Thn_n ?_)
  refine CW.ret ?_
  exact fq_tmp rfl rfl ⟨rfl, rfl⟩

theorem works_ok  (w0 : World) (M : PH) (hM : On M w0) (hgl : GL M) : Ok Tryd.prog 10 #[] w0 M (fun M' r => r = .bool true) := by
  have hS := hM.st
  refine enterB (l := []) 39 Tryd.func10 rfl Tryd.ntmps10 rfl ?_
  refine CW.seq ?_
  refine CW.region ?_
  refine WL.step rfl (Stp.res rfl rfl (Res.assign rfl rfl) ?_)
  refine WL.nil (Thn_n ?_)
  refine CW.seq ?_
  have hS := hS.drew
  have hK0 : True := trivial
  refine CW.held (fun _ => True) mixed ?_
  refine AL.two 0 1 rfl rfl (by kernel_rfl) rfl rfl ?_ ?_
  · refine Stp.makeB (k := 16) (c := 16) rfl rfl rfl et23 ⟨Nat.le_refl 16, by decide⟩ rfl rfl hS ?_
    intro b7 w hb7 hS hkp hnw
    have hK0 : True := trivial
    refine ⟨hK0, ?_⟩
    refine AL.take 2 rfl (by kernel_rfl) (by kernel_rfl) (by kernel_rfl) rfl rfl rfl hK0 (fun w hK => Res.assign rfl rfl) ?_
    refine AL.one 1 rfl (by kernel_rfl) rfl (Stp.makeB (k := 16) (c := 16) rfl rfl rfl et23 ⟨Nat.le_refl 16, by decide⟩ rfl rfl hS ?_)
    intro b8 w hb8 hS hkp hnw
    have hK0 : True := trivial
    refine ⟨hK0, ?_⟩
    refine AL.take 3 rfl (by kernel_rfl) (by kernel_rfl) (by kernel_rfl) rfl rfl rfl hK0 (fun w hK => Res.assign rfl rfl) ?_
    refine AL.done (by kernel_rfl) (Thn_n ?_)
    refine CW.seq ?_
    obtain ⟨M1, hG1, hz1, hz2, hS⟩ : ∃ M1, Grow w0.heap.size M M1 ∧ Bs M1 (.slice (some ⟨b7, 0, none⟩) 16 16) (List.replicate 16 0) ∧ Bs M1 (.slice (some ⟨b8, 0, none⟩) 16 16) (List.replicate 16 0) ∧ St w0 w M1 [] := by
      first | (have hF := hS.freezeG (i := 0) rfl hb7; have hF2 := hF.1.freezeG (i := 0) rfl hb8; exact ⟨_, hF.2.trans hF2.2, (Bs.of' (PH.add_self _ _ _) (by simp [*]) (by omega)).mono hF2.2.1, Bs.of' (PH.add_self _ _ _) (by simp [*]) (by omega), hF2.1⟩) | (have hF := hS.freezeG (i := 0) rfl hb8; have hF2 := hF.1.freezeG (i := 0) rfl hb7; exact ⟨_, hF.2.trans hF2.2, Bs.of' (PH.add_self _ _ _) (by simp [*]) (by omega), (Bs.of' (PH.add_self _ _ _) (by simp [*]) (by omega)).mono hF2.2.1, hF2.1⟩)
    refine CW.region ?_
    refine WL.step rfl (Stp.res rfl rfl (Res.move rfl rfl) ?_)
    refine WL.step rfl (Stp.res rfl rfl (Res.move rfl rfl) ?_)
    refine WL.step rfl (Stp.lit (vals := [(0, byte 104), (1, byte 101), (2, byte 108), (3, byte 108), (4, byte 111)]) (cs := bs [104, 101, 108, 108, 111]) (e := 5) rfl rfl (fun _ => by kernel_rfl) rfl rfl hS ?_)
    intro b12 w hb12 hS hkp hnw
    refine WL.step rfl (Stp.markB 0 rfl rfl Tryd.underlying23 Tryd.underlying5 hS rfl rfl rfl ?_)
    intro w hS
    have hF := hS.freezeG (i := 0) rfl hb12
    obtain ⟨M2, hG2, htx, hS⟩ : ∃ M2, Grow w0.heap.size M1 M2 ∧ Bs M2 (.slice (some ⟨b12, 0, none⟩) 5 5) [104, 101, 108, 108, 111] ∧ St w0 w M2 [] := ⟨_, hF.2, Bs.of' (PH.add_self _ _ _) rfl (by decide), hF.1⟩
    refine WL.step rfl (Stp.callG (args := [_, _, _, _]) rfl rfl rfl cal12 rfl rfl hS (seal_all _ _ _ (List.replicate 16 0) (List.replicate 16 0) [104, 101, 108, 108, 111] 3 _ _ hS.on (hgl.mono (hG1.trans hG2).1) (hz1.mono hG2.1) (hz2.mono hG2.1) htx) ?_)
    rintro _ w M3 hS hG3 ⟨sv, rfl, hsv⟩
    have hgd : Seal.Good (List.replicate 16 0) 3 := ⟨rfl, by decide, by decide⟩
    rw [Seal.sealR_ok hgd rfl (by decide)] at hsv ⊢
    change Bs M3 sv (Seal.sealed (Seal.ek (List.replicate 16 0) 3) (Seal.ik (List.replicate 16 0) 3) (List.replicate 16 0) [104, 101, 108, 108, 111]) at hsv
    refine WL.step rfl (Stp.res rfl rfl (Res.move rfl rfl) ?_)
    refine WL.step rfl (Stp.res rfl rfl (Res.extract (l := [_, _]) rfl rfl rfl) ?_)
    refine WL.step rfl (Stp.res rfl rfl (Res.extract (l := [_, _]) rfl rfl rfl) ?_)
    refine WL.step rfl (Stp.res rfl rfl (Res.assign rfl rfl) ?_)
    refine WL.step rfl (Stp.res rfl rfl (Res.assign rfl rfl) ?_)
    refine WL.nil (Thn_n ?_)
    refine CW.seq ?_
    refine CW.region ?_
    refine WL.step rfl (Stp.res rfl rfl (Res.move rfl rfl) ?_)
    refine WL.step rfl (Stp.res rfl rfl (Res.move rfl rfl) ?_)
    refine WL.step rfl (Stp.callG (args := [_, _, _]) rfl rfl rfl cal13 rfl rfl hS (open_all _ _ (List.replicate 16 0) _ 3 _ _ hS.on (hgl.mono ((hG1.trans hG2).trans hG3).1) (hz1.mono (hG2.trans hG3).1) hsv) ?_)
    rintro _ w M4 hS hG4 ⟨ow, rfl, hov⟩
    rw [Seal.openR_sealed hgd rfl (by decide)] at hov ⊢
    change Bs M4 ow [104, 101, 108, 108, 111] at hov
    refine WL.step rfl (Stp.res rfl rfl (Res.move rfl rfl) ?_)
    refine WL.step rfl (Stp.res rfl rfl (Res.extract (l := [_, _]) rfl rfl rfl) ?_)
    refine WL.step rfl (Stp.res rfl rfl (Res.extract (l := [_, _]) rfl rfl rfl) ?_)
    refine WL.step rfl (Stp.res rfl rfl (Res.assign rfl rfl) ?_)
    refine WL.step rfl (Stp.res rfl rfl (Res.assign rfl rfl) ?_)
    refine WL.nil (Thn_n ?_)
    refine CW.seq ?_
    obtain ⟨qa, qc, rfl, q1, q2, q3, q4⟩ := id hsv
    have hsl := Seal.sealed_length (Seal.ek (List.replicate 16 0) 3) (Seal.ik (List.replicate 16 0) 3) (List.replicate 16 0) [104, 101, 108, 108, 111] rfl
    have hl5 : ([104, 101, 108, 108, 111] : List UInt8).length = 5 := rfl
    refine CW.region ?_
    refine WL.step rfl (Stp.res rfl rfl (Res.move rfl rfl) ?_)
    refine WL.step rfl (Stp.res rfl rfl (Res.len rfl rfl rfl rfl Tryd.underlying23) ?_)
    refine WL.step rfl (Stp.res rfl rfl (Res.to (Res.eql rfl rfl rfl) (by omega)) ?_)
    refine WL.step rfl (Stp.res rfl rfl (Res.move rfl rfl) ?_)
    refine WL.stepG 3 true rfl rfl rfl rfl (Stp.res rfl rfl (Res.move rfl rfl) ?_)
    refine WL.stepG 3 true rfl rfl rfl rfl (Stp.res rfl rfl (Res.to (Res.eql rfl rfl rfl) (by rfl)) ?_)
    refine WL.step rfl (Stp.res rfl rfl (Res.pickT rfl rfl rfl) ?_)
    refine WL.step rfl (Stp.res rfl rfl (Res.move rfl rfl) ?_)
    refine WL.stepG 7 true rfl rfl rfl rfl (Stp.res rfl rfl (Res.move rfl rfl) ?_)
    refine WL.stepG 7 true rfl rfl rfl rfl (Stp.res rfl rfl (Res.b2s rfl rfl hS hov Tryd.underlying23 Tryd.underlying5 Tryd.underlying9) ?_)
    refine WL.stepG 7 true rfl rfl rfl rfl (Stp.res rfl rfl (Res.cast (Res.eqlS (a := [104, 101, 108, 108, 111]) (b := [104, 101, 108, 108, 111]) rfl rfl rfl) (v' := .bool true) rfl) ?_)
    refine WL.step rfl (Stp.res rfl rfl (Res.pickT rfl rfl rfl) ?_)
    refine WL.step rfl (Stp.res rfl rfl (Res.move rfl rfl) ?_)
    refine WL.stepG 12 true rfl rfl rfl rfl (Stp.res rfl rfl (Res.move rfl rfl) ?_)
    refine WL.stepG 12 true rfl rfl rfl rfl (Stp.res rfl rfl (Res.to (Res.eql rfl rfl rfl) (by rfl)) ?_)
    refine WL.step rfl (Stp.res rfl rfl (Res.pickT rfl rfl rfl) ?_)
    refine WL.step rfl (Stp.res rfl rfl (Res.assign rfl rfl) ?_)
    refine WL.nil (Thn_n ?_)
    refine CW.ret ?_
    exact fq_tmp rfl rfl ⟨_, hS, (((hG1.trans hG2).trans hG3).trans hG4).1, (((hG1.trans hG2).trans hG3).trans hG4).2, rfl⟩
  · refine Stp.makeB (k := 16) (c := 16) rfl rfl rfl et23 ⟨Nat.le_refl 16, by decide⟩ rfl rfl hS ?_
    intro b8 w hb8 hS hkp hnw
    have hK0 : True := trivial
    refine ⟨hK0, ?_⟩
    refine AL.one 0 rfl (by kernel_rfl) rfl (Stp.makeB (k := 16) (c := 16) rfl rfl rfl et23 ⟨Nat.le_refl 16, by decide⟩ rfl rfl hS ?_)
    intro b7 w hb7 hS hkp hnw
    have hK0 : True := trivial
    refine ⟨hK0, ?_⟩
    refine AL.take 2 rfl (by kernel_rfl) (by kernel_rfl) (by kernel_rfl) rfl rfl rfl hK0 (fun w hK => Res.assign rfl rfl) ?_
    refine AL.take 3 rfl (by kernel_rfl) (by kernel_rfl) (by kernel_rfl) rfl rfl rfl hK0 (fun w hK => Res.assign rfl rfl) ?_
    refine AL.done (by kernel_rfl) (Thn_n ?_)
    refine CW.seq ?_
    obtain ⟨M1, hG1, hz1, hz2, hS⟩ : ∃ M1, Grow w0.heap.size M M1 ∧ Bs M1 (.slice (some ⟨b7, 0, none⟩) 16 16) (List.replicate 16 0) ∧ Bs M1 (.slice (some ⟨b8, 0, none⟩) 16 16) (List.replicate 16 0) ∧ St w0 w M1 [] := by
      first | (have hF := hS.freezeG (i := 0) rfl hb7; have hF2 := hF.1.freezeG (i := 0) rfl hb8; exact ⟨_, hF.2.trans hF2.2, (Bs.of' (PH.add_self _ _ _) (by simp [*]) (by omega)).mono hF2.2.1, Bs.of' (PH.add_self _ _ _) (by simp [*]) (by omega), hF2.1⟩) | (have hF := hS.freezeG (i := 0) rfl hb8; have hF2 := hF.1.freezeG (i := 0) rfl hb7; exact ⟨_, hF.2.trans hF2.2, Bs.of' (PH.add_self _ _ _) (by simp [*]) (by omega), (Bs.of' (PH.add_self _ _ _) (by simp [*]) (by omega)).mono hF2.2.1, hF2.1⟩)
    refine CW.region ?_
    refine WL.step rfl (Stp.res rfl rfl (Res.move rfl rfl) ?_)
    refine WL.step rfl (Stp.res rfl rfl (Res.move rfl rfl) ?_)
    refine WL.step rfl (Stp.lit (vals := [(0, byte 104), (1, byte 101), (2, byte 108), (3, byte 108), (4, byte 111)]) (cs := bs [104, 101, 108, 108, 111]) (e := 5) rfl rfl (fun _ => by kernel_rfl) rfl rfl hS ?_)
    intro b12 w hb12 hS hkp hnw
    refine WL.step rfl (Stp.markB 0 rfl rfl Tryd.underlying23 Tryd.underlying5 hS rfl rfl rfl ?_)
    intro w hS
    have hF := hS.freezeG (i := 0) rfl hb12
    obtain ⟨M2, hG2, htx, hS⟩ : ∃ M2, Grow w0.heap.size M1 M2 ∧ Bs M2 (.slice (some ⟨b12, 0, none⟩) 5 5) [104, 101, 108, 108, 111] ∧ St w0 w M2 [] := ⟨_, hF.2, Bs.of' (PH.add_self _ _ _) rfl (by decide), hF.1⟩
    refine WL.step rfl (Stp.callG (args := [_, _, _, _]) rfl rfl rfl cal12 rfl rfl hS (seal_all _ _ _ (List.replicate 16 0) (List.replicate 16 0) [104, 101, 108, 108, 111] 3 _ _ hS.on (hgl.mono (hG1.trans hG2).1) (hz1.mono hG2.1) (hz2.mono hG2.1) htx) ?_)
    rintro _ w M3 hS hG3 ⟨sv, rfl, hsv⟩
    have hgd : Seal.Good (List.replicate 16 0) 3 := ⟨rfl, by decide, by decide⟩
    rw [Seal.sealR_ok hgd rfl (by decide)] at hsv ⊢
    change Bs M3 sv (Seal.sealed (Seal.ek (List.replicate 16 0) 3) (Seal.ik (List.replicate 16 0) 3) (List.replicate 16 0) [104, 101, 108, 108, 111]) at hsv
    refine WL.step rfl (Stp.res rfl rfl (Res.move rfl rfl) ?_)
    refine WL.step rfl (Stp.res rfl rfl (Res.extract (l := [_, _]) rfl rfl rfl) ?_)
    refine WL.step rfl (Stp.res rfl rfl (Res.extract (l := [_, _]) rfl rfl rfl) ?_)
    refine WL.step rfl (Stp.res rfl rfl (Res.assign rfl rfl) ?_)
    refine WL.step rfl (Stp.res rfl rfl (Res.assign rfl rfl) ?_)
    refine WL.nil (Thn_n ?_)
    refine CW.seq ?_
    refine CW.region ?_
    refine WL.step rfl (Stp.res rfl rfl (Res.move rfl rfl) ?_)
    refine WL.step rfl (Stp.res rfl rfl (Res.move rfl rfl) ?_)
    refine WL.step rfl (Stp.callG (args := [_, _, _]) rfl rfl rfl cal13 rfl rfl hS (open_all _ _ (List.replicate 16 0) _ 3 _ _ hS.on (hgl.mono ((hG1.trans hG2).trans hG3).1) (hz1.mono (hG2.trans hG3).1) hsv) ?_)
    rintro _ w M4 hS hG4 ⟨ow, rfl, hov⟩
    rw [Seal.openR_sealed hgd rfl (by decide)] at hov ⊢
    change Bs M4 ow [104, 101, 108, 108, 111] at hov
    refine WL.step rfl (Stp.res rfl rfl (Res.move rfl rfl) ?_)
    refine WL.step rfl (Stp.res rfl rfl (Res.extract (l := [_, _]) rfl rfl rfl) ?_)
    refine WL.step rfl (Stp.res rfl rfl (Res.extract (l := [_, _]) rfl rfl rfl) ?_)
    refine WL.step rfl (Stp.res rfl rfl (Res.assign rfl rfl) ?_)
    refine WL.step rfl (Stp.res rfl rfl (Res.assign rfl rfl) ?_)
    refine WL.nil (Thn_n ?_)
    refine CW.seq ?_
    obtain ⟨qa, qc, rfl, q1, q2, q3, q4⟩ := id hsv
    have hsl := Seal.sealed_length (Seal.ek (List.replicate 16 0) 3) (Seal.ik (List.replicate 16 0) 3) (List.replicate 16 0) [104, 101, 108, 108, 111] rfl
    have hl5 : ([104, 101, 108, 108, 111] : List UInt8).length = 5 := rfl
    refine CW.region ?_
    refine WL.step rfl (Stp.res rfl rfl (Res.move rfl rfl) ?_)
    refine WL.step rfl (Stp.res rfl rfl (Res.len rfl rfl rfl rfl Tryd.underlying23) ?_)
    refine WL.step rfl (Stp.res rfl rfl (Res.to (Res.eql rfl rfl rfl) (by omega)) ?_)
    refine WL.step rfl (Stp.res rfl rfl (Res.move rfl rfl) ?_)
    refine WL.stepG 3 true rfl rfl rfl rfl (Stp.res rfl rfl (Res.move rfl rfl) ?_)
    refine WL.stepG 3 true rfl rfl rfl rfl (Stp.res rfl rfl (Res.to (Res.eql rfl rfl rfl) (by rfl)) ?_)
    refine WL.step rfl (Stp.res rfl rfl (Res.pickT rfl rfl rfl) ?_)
    refine WL.step rfl (Stp.res rfl rfl (Res.move rfl rfl) ?_)
    refine WL.stepG 7 true rfl rfl rfl rfl (Stp.res rfl rfl (Res.move rfl rfl) ?_)
    refine WL.stepG 7 true rfl rfl rfl rfl (Stp.res rfl rfl (Res.b2s rfl rfl hS hov Tryd.underlying23 Tryd.underlying5 Tryd.underlying9) ?_)
    refine WL.stepG 7 true rfl rfl rfl rfl (Stp.res rfl rfl (Res.cast (Res.eqlS (a := [104, 101, 108, 108, 111]) (b := [104, 101, 108, 108, 111]) rfl rfl rfl) (v' := .bool true) rfl) ?_)
    refine WL.step rfl (Stp.res rfl rfl (Res.pickT rfl rfl rfl) ?_)
    refine WL.step rfl (Stp.res rfl rfl (Res.move rfl rfl) ?_)
    refine WL.stepG 12 true rfl rfl rfl rfl (Stp.res rfl rfl (Res.move rfl rfl) ?_)
    refine WL.stepG 12 true rfl rfl rfl rfl (Stp.res rfl rfl (Res.to (Res.eql rfl rfl rfl) (by rfl)) ?_)
    refine WL.step rfl (Stp.res rfl rfl (Res.pickT rfl rfl rfl) ?_)
    refine WL.step rfl (Stp.res rfl rfl (Res.assign rfl rfl) ?_)
    refine WL.nil (Thn_n ?_)
    refine CW.ret ?_
    exact fq_tmp rfl rfl ⟨_, hS, (((hG1.trans hG2).trans hG3).trans hG4).1, (((hG1.trans hG2).trans hG3).trans hG4).2, rfl⟩
end Go.Proofs.YtcmgimicdcchlaaDoor
