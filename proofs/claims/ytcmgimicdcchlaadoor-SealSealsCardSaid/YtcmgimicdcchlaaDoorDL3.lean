/- Own text of this seat (DL3): lemmas on the way to the statement; no condition of its own. -/
import Derived.Test.YtcmgimicdcchlaaDoorDL2
set_option linter.unusedVariables false
set_option maxRecDepth 20000
namespace Go.Proofs.YtcmgimicdcchlaaDoor
open Go Go.E
theorem law_apart (v u : Value) (key conf l m : List UInt8) (use : Int) (w0 : World) (M : PH) (hM : On M w0) (hgl : GL M) (hkl : key.length = 16) (hcl : conf.length = 16) (hv : Bs M v l) (hu : Bs M u m) : Ok Tryd.prog 4 #[.agg (bs key), .int .i64 use, .agg (bs conf), v, u] w0 M (fun M' r => M = M' ∧ r = .bool true) := by
  have hS := hM.st
  have hv0 := hv
  obtain ⟨va, vc, rfl, v1, v2, v3, v4⟩ := hv
  have hu0 := hu
  obtain ⟨ua, uc, rfl, u1, u2, u3, u4⟩ := hu
  have ham := Seal.amg_lt use (n := 256) (by omega)
  have htl : (l.take (min l.length 300)).length = min l.length 300 := by rw [List.length_take]; omega
  have htm : (m.take (min m.length 300)).length = min m.length 300 := by rw [List.length_take]; omega
  have hgd : Seal.Good key ((Seal.amg use 256 : Nat) : Int) := ⟨hkl, by omega, by omega⟩
  refine enterB (l := [.agg (bs key), .int .i64 use, .agg (bs conf), .slice va l.length vc, .slice ua m.length uc]) 60 Tryd.func4 rfl Tryd.ntmps4 rfl ?_
  refine CW.seq ?_
  refine CW.region ?_
  refine WL.step rfl (Stp.boxA rfl rfl rfl rfl hS ?_)
  intro b5 w hb5 hS hkp hnw
  refine WL.step rfl (Stp.boxA rfl rfl rfl rfl hS ?_)
  intro b7 w hb7 hS hkp hnw
  refine WL.step rfl (Stp.res rfl rfl (Res.assign rfl rfl) ?_)
  refine WL.nil (Thn_n ?_)
  refine CW.seq ?_
  refine CW.seq ?_
  obtain ⟨M1, hG1, hk, hc, hS⟩ : ∃ M1, Grow w0.heap.size M M1 ∧ Bs M1 (.slice (some ⟨b5, 0, none⟩) 16 16) key ∧ Bs M1 (.slice (some ⟨b7, 0, none⟩) 16 16) conf ∧ St w0 w M1 [] := by
    have hl1 : key.length = 16 := by assumption
    have hl2 : conf.length = 16 := by assumption
    have hF := hS.freezeG (i := 0) rfl hb7
    have hF2 := hF.1.freezeG (i := 0) rfl hb5
    exact ⟨_, hF.2.trans hF2.2, Bs.of' (PH.add_self _ _ _) (by assumption) (by omega), (Bs.of' (PH.add_self _ _ _) (by assumption) (by omega)).mono hF2.2.1, hF2.1⟩
  refine CW.region ?_
  refine WL.step rfl (Stp.callG (args := []) rfl rfl rfl cal10 rfl rfl hS (works_ok _ _ hS.on (hgl.mono hG1.1)) ?_)
  rintro _ w MW hS hGW rfl
  refine WL.step rfl (Stp.res rfl rfl (Res.not rfl rfl rfl) ?_)
  refine WL.nil (Thn_n ?_)
  refine CW.condF rfl ?_
  refine CW.skip (Thn_n ?_)
  refine CW.seq ?_
  have hS := hS.drew
  refine CW.still mixed (by kernel_rfl) ?_
  refine SL.step rfl rfl rfl (Res.move rfl rfl) ?_
  refine SL.step rfl rfl rfl (Res.move rfl rfl) ?_
  refine SL.step rfl rfl rfl (Res.len rfl rfl rfl rfl Tryd.underlying23) ?_
  refine SL.step rfl rfl rfl (Res.minN rfl rfl rfl) ?_
  refine SL.step rfl rfl rfl (Res.sliceHi (h := min l.length 300) rfl rfl rfl Tryd.underlying23 sz5 (by omega)) ?_
  refine SL.step rfl rfl rfl (Res.move rfl rfl) ?_
  refine SL.step rfl rfl rfl (Res.move rfl rfl) ?_
  refine SL.step rfl rfl rfl (Res.len rfl rfl rfl rfl Tryd.underlying23) ?_
  refine SL.step rfl rfl rfl (Res.minN rfl rfl rfl) ?_
  refine SL.step rfl rfl rfl (Res.sliceHi (h := min m.length 300) rfl rfl rfl Tryd.underlying23 sz5 (by omega)) ?_
  refine SL.step rfl rfl rfl (Res.assign rfl rfl) ?_
  refine SL.step rfl rfl rfl (Res.assign rfl rfl) ?_
  refine SL.nil (Thn_n ?_)
  refine CW.seq ?_
  refine CW.region ?_
  refine WL.step rfl (Stp.res rfl rfl (Res.move rfl rfl) ?_)
  refine WL.step rfl (Stp.callA (args := [_, _]) rfl rfl rfl cal11 rfl rfl (among_ok use 256 (by omega) _) ?_)
  refine WL.step rfl (Stp.res rfl rfl (Res.assign rfl rfl) ?_)
  refine WL.nil (Thn_n ?_)
  refine CW.seq ?_
  have hS := hS.drew
  have hK0 : True := trivial
  refine CW.held (fun _ => True) mixed ?_
  refine AL.take 0 rfl (by kernel_rfl) (by kernel_rfl) (by kernel_rfl) rfl rfl rfl hK0 (fun w hK => Res.sliceA rfl rfl Tryd.underlying22 (by decide) sz5) ?_
  refine AL.take 1 rfl (by kernel_rfl) (by kernel_rfl) (by kernel_rfl) rfl rfl rfl hK0 (fun w hK => Res.move rfl rfl) ?_
  refine AL.take 2 rfl (by kernel_rfl) (by kernel_rfl) (by kernel_rfl) rfl rfl rfl hK0 (fun w hK => Res.sliceA rfl rfl Tryd.underlying22 (by decide) sz5) ?_
  refine AL.take 3 rfl (by kernel_rfl) (by kernel_rfl) (by kernel_rfl) rfl rfl rfl hK0 (fun w hK => Res.move rfl rfl) ?_
  refine AL.one 4 rfl (by kernel_rfl) rfl (Stp.callG (args := [_, _, _, _]) rfl rfl rfl cal12 rfl rfl hS (seal_all _ _ _ key conf (l.take (min l.length 300)) ((Seal.amg use 256 : Nat) : Int) _ _ hS.on (hgl.mono (hG1.trans hGW).1) (hk.mono hGW.1) (hc.mono hGW.1) ((hv0.mono (hG1.trans hGW).1).take (by omega))) ?_)
  rintro _ w M3 hS hG3 ⟨sv, rfl, hsv⟩
  rw [Seal.sealR_ok hgd hcl (by omega)] at hsv ⊢
  change Bs M3 sv (Seal.sealed (Seal.ek key ((Seal.amg use 256 : Nat) : Int)) (Seal.ik key ((Seal.amg use 256 : Nat) : Int)) conf (l.take (min l.length 300))) at hsv
  have hK0 : True := trivial
  refine ⟨hK0, ?_⟩
  refine AL.take 5 rfl (by kernel_rfl) (by kernel_rfl) (by kernel_rfl) rfl rfl rfl hK0 (fun w hK => Res.move rfl rfl) ?_
  refine AL.take 6 rfl (by kernel_rfl) (by kernel_rfl) (by kernel_rfl) rfl rfl rfl hK0 (fun w hK => Res.extract (l := [_, _]) rfl rfl rfl) ?_
  refine AL.take 7 rfl (by kernel_rfl) (by kernel_rfl) (by kernel_rfl) rfl rfl rfl hK0 (fun w hK => Res.extract (l := [_, _]) rfl rfl rfl) ?_
  refine AL.take 8 rfl (by kernel_rfl) (by kernel_rfl) (by kernel_rfl) rfl rfl rfl hK0 (fun w hK => Res.assign rfl rfl) ?_
  refine AL.take 9 rfl (by kernel_rfl) (by kernel_rfl) (by kernel_rfl) rfl rfl rfl hK0 (fun w hK => Res.assign rfl rfl) ?_
  refine AL.done (by kernel_rfl) (Thn_n ?_)
  refine CW.seq ?_
  have hS := hS.drew
  have hK0 : True := trivial
  refine CW.held (fun _ => True) mixed ?_
  refine AL.take 0 rfl (by kernel_rfl) (by kernel_rfl) (by kernel_rfl) rfl rfl rfl hK0 (fun w hK => Res.sliceA rfl rfl Tryd.underlying22 (by decide) sz5) ?_
  refine AL.take 1 rfl (by kernel_rfl) (by kernel_rfl) (by kernel_rfl) rfl rfl rfl hK0 (fun w hK => Res.move rfl rfl) ?_
  refine AL.take 2 rfl (by kernel_rfl) (by kernel_rfl) (by kernel_rfl) rfl rfl rfl hK0 (fun w hK => Res.sliceA rfl rfl Tryd.underlying22 (by decide) sz5) ?_
  refine AL.take 3 rfl (by kernel_rfl) (by kernel_rfl) (by kernel_rfl) rfl rfl rfl hK0 (fun w hK => Res.move rfl rfl) ?_
  refine AL.one 4 rfl (by kernel_rfl) rfl (Stp.callG (args := [_, _, _, _]) rfl rfl rfl cal12 rfl rfl hS (seal_all _ _ _ key conf (m.take (min m.length 300)) ((Seal.amg use 256 : Nat) : Int) _ _ hS.on (hgl.mono ((hG1.trans hGW).trans hG3).1) (hk.mono (hGW.trans hG3).1) (hc.mono (hGW.trans hG3).1) ((hu0.mono ((hG1.trans hGW).trans hG3).1).take (by omega))) ?_)
  rintro _ w M4 hS hG4 ⟨sw, rfl, hsw⟩
  rw [Seal.sealR_ok hgd hcl (by omega)] at hsw ⊢
  change Bs M4 sw (Seal.sealed (Seal.ek key ((Seal.amg use 256 : Nat) : Int)) (Seal.ik key ((Seal.amg use 256 : Nat) : Int)) conf (m.take (min m.length 300))) at hsw
  have hK0 : True := trivial
  refine ⟨hK0, ?_⟩
  refine AL.take 5 rfl (by kernel_rfl) (by kernel_rfl) (by kernel_rfl) rfl rfl rfl hK0 (fun w hK => Res.move rfl rfl) ?_
  refine AL.take 6 rfl (by kernel_rfl) (by kernel_rfl) (by kernel_rfl) rfl rfl rfl hK0 (fun w hK => Res.extract (l := [_, _]) rfl rfl rfl) ?_
  refine AL.take 7 rfl (by kernel_rfl) (by kernel_rfl) (by kernel_rfl) rfl rfl rfl hK0 (fun w hK => Res.extract (l := [_, _]) rfl rfl rfl) ?_
  refine AL.take 8 rfl (by kernel_rfl) (by kernel_rfl) (by kernel_rfl) rfl rfl rfl hK0 (fun w hK => Res.assign rfl rfl) ?_
  refine AL.take 9 rfl (by kernel_rfl) (by kernel_rfl) (by kernel_rfl) rfl rfl rfl hK0 (fun w hK => Res.assign rfl rfl) ?_
  refine AL.done (by kernel_rfl) (Thn_n ?_)
  refine CW.seq ?_
  refine CW.region ?_
  refine WL.step rfl (Stp.res rfl rfl (Res.move rfl rfl) ?_)
  refine WL.step rfl (Stp.res rfl rfl (Res.to (Res.eql rfl rfl rfl) (by rfl)) ?_)
  refine WL.step rfl (Stp.res rfl rfl (Res.move rfl rfl) ?_)
  refine WL.stepG 2 true rfl rfl rfl rfl (Stp.res rfl rfl (Res.move rfl rfl) ?_)
  refine WL.stepG 2 true rfl rfl rfl rfl (Stp.res rfl rfl (Res.to (Res.eql rfl rfl rfl) (by rfl)) ?_)
  refine WL.step rfl (Stp.res rfl rfl (Res.pickT rfl rfl rfl) ?_)
  refine WL.step rfl (Stp.res rfl rfl (Res.move rfl rfl) ?_)
  refine WL.stepG 6 true rfl rfl rfl rfl (Stp.res rfl rfl (Res.move rfl rfl) ?_)
  refine WL.stepG 6 true rfl rfl rfl rfl (Stp.res rfl rfl (Res.move rfl rfl) ?_)
  refine WL.stepG 6 true rfl rfl rfl rfl (Stp.callA (args := [_, _]) rfl rfl rfl cal14 rfl rfl (samebytes_ok _ _ _ _ M4 _ hS.on (hsv.mono hG4.1) hsw) ?_)
  refine WL.stepG 6 true rfl rfl rfl rfl (Stp.res rfl rfl (Res.move rfl rfl) ?_)
  refine WL.stepG 6 true rfl rfl rfl rfl (Stp.res rfl rfl (Res.move rfl rfl) ?_)
  refine WL.stepG 6 true rfl rfl rfl rfl (Stp.callA (args := [_, _]) rfl rfl rfl cal14 rfl rfl (samebytes_ok _ _ _ _ M4 _ hS.on ((hv0.mono (((hG1.trans hGW).trans hG3).trans hG4).1).take (by omega)) ((hu0.mono (((hG1.trans hGW).trans hG3).trans hG4).1).take (by omega))) ?_)
  refine WL.stepG 6 true rfl rfl rfl rfl (Stp.res rfl rfl (Res.toB (Res.eqlBool rfl rfl rfl Tryd.underlying4) (Seal.sealed_dec _ _ _ hcl _ _)) ?_)
  refine WL.step rfl (Stp.res rfl rfl (Res.pickT rfl rfl rfl) ?_)
  refine WL.step rfl (Stp.res rfl rfl (Res.assign rfl rfl) ?_)
  refine WL.nil (Thn_n ?_)
  refine CW.ret ?_
  exact fq_tmp rfl rfl ⟨M, hS.known ((((hG1.trans hGW).trans hG3).trans hG4)).1, PH.le.refl _, Fresh.refl _ _, rfl, rfl⟩
end Go.Proofs.YtcmgimicdcchlaaDoor
