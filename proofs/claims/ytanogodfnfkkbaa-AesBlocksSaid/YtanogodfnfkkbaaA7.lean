/- Own text of this seat (A7): lemmas on the way to the statement; no condition of its own. -/
import Derived.Test.YtanogodfnfkkbaaA6
set_option linter.unusedVariables false
namespace Go.Proofs.Ytanogodfnfkkbaa
open Go Go.E
theorem law_apart (k a b : List UInt8) (x y : UInt8) (w0 : World) (M : PH) (hM : On M w0) (hk : k.length = 16) (ha : a.length = 16) (hb : b.length = 16) : Ok Try.prog 5 #[.agg (bs k), .agg (bs a), .agg (bs b), byte x, byte y] w0 M (fun M' r => M = M' ∧ r = .bool true) := by
  have hS := hM.st
  refine enterB (l := [.agg (bs k), .agg (bs a), .agg (bs b), byte x, byte y]) 55 Try.func5 rfl Try.ntmps5 rfl ?_
  refine CW.seq ?_
  refine CW.region ?_
  refine WL.step rfl (Stp.boxA rfl rfl rfl rfl hS ?_)
  intro b5 w hb5 hS hkp hnw
  refine WL.step rfl (Stp.boxA rfl rfl rfl rfl hS ?_)
  intro b6 w hb6 hS hkp hnw
  refine WL.step rfl (Stp.boxA rfl rfl rfl rfl hS ?_)
  intro b7 w hb7 hS hkp hnw
  refine WL.step rfl (Stp.res rfl rfl (Res.assign rfl rfl) ?_)
  refine WL.nil (Thn_n ?_)
  refine CW.seq ?_
  refine CW.seq ?_
  obtain ⟨M2, hle0, hbk, hmk, hba, hma, hbb, hmb, hS⟩ : ∃ M2, M.le M2 ∧ Bs M2 (.slice (some ⟨b5, 0, none⟩) 16 16) k ∧ M2 b5 = some (.cells (bs k) 29 (0, 0)) ∧ Bs M2 (.slice (some ⟨b6, 0, none⟩) 16 16) a ∧ M2 b6 = some (.cells (bs a) 29 (0, 0)) ∧ Bs M2 (.slice (some ⟨b7, 0, none⟩) 16 16) b ∧ M2 b7 = some (.cells (bs b) 29 (0, 0)) ∧ St w0 w M2 [] := by
    have hF0 := hS.freeze (i := 0) rfl hb7
    have hF1 := hF0.1.freeze (i := 0) rfl hb6
    have hF2 := hF1.1.freeze (i := 0) rfl hb5
    exact ⟨_, (hF0.2.trans hF1.2).trans hF2.2, Bs.of' (PH.add_self _ _ _) (hk) (by omega), (PH.add_self _ _ _), Bs.of' (hF2.2 _ _ (PH.add_self _ _ _)) (ha) (by omega), (hF2.2 _ _ (PH.add_self _ _ _)), Bs.of' ((hF1.2.trans hF2.2) _ _ (PH.add_self _ _ _)) (hb) (by omega), ((hF1.2.trans hF2.2) _ _ (PH.add_self _ _ _)), hF2.1⟩
  refine CW.region ?_
  refine WL.step rfl (Stp.callB (args := []) rfl rfl rfl cal8 rfl rfl hS (works_ok _ _ hS.on) ?_)
  rintro _ w _ hS _ _ hkp ⟨rfl, rfl⟩
  refine WL.step rfl (Stp.res rfl rfl (Res.not rfl rfl rfl) ?_)
  refine WL.nil (Thn_n ?_)
  refine CW.condF rfl ?_
  refine CW.skip (Thn_n ?_)
  refine CW.seq ?_
  have hS := hS.drew
  have hK0 : True := trivial
  refine CW.held (fun _ => True) mixed ?_
  refine AL.take 0 rfl (by kernel_rfl) (by kernel_rfl) (by kernel_rfl) rfl rfl rfl hK0 (fun w hK => Res.sliceA rfl rfl Try.underlying29 (by decide) sz5) ?_
  refine AL.take 1 rfl (by kernel_rfl) (by kernel_rfl) (by kernel_rfl) rfl rfl rfl hK0 (fun w hK => Res.sliceA rfl rfl Try.underlying29 (by decide) sz5) ?_
  refine AL.one 2 rfl (by kernel_rfl) rfl (Stp.callB (args := [_, _]) rfl rfl rfl cal14 rfl rfl hS (encrypt_ok _ _ k a _ _ hS.on hbk hba hk ha) ?_)
  rintro _ w M3 hS hle1 hfr1 hkp ⟨s1, rfl, hs1⟩
  have hK0 : True := trivial
  refine ⟨hK0, ?_⟩
  refine AL.take 3 rfl (by kernel_rfl) (by kernel_rfl) (by kernel_rfl) rfl rfl rfl hK0 (fun w hK => Res.move rfl rfl) ?_
  refine AL.take 4 rfl (by kernel_rfl) (by kernel_rfl) (by kernel_rfl) rfl rfl rfl hK0 (fun w hK => Res.extract (l := [_, _]) rfl rfl rfl) ?_
  refine AL.take 5 rfl (by kernel_rfl) (by kernel_rfl) (by kernel_rfl) rfl rfl rfl hK0 (fun w hK => Res.extract (l := [_, _]) rfl rfl rfl) ?_
  refine AL.take 6 rfl (by kernel_rfl) (by kernel_rfl) (by kernel_rfl) rfl rfl rfl hK0 (fun w hK => Res.assign rfl rfl) ?_
  refine AL.take 7 rfl (by kernel_rfl) (by kernel_rfl) (by kernel_rfl) rfl rfl rfl hK0 (fun w hK => Res.assign rfl rfl) ?_
  refine AL.done (by kernel_rfl) (Thn_n ?_)
  refine CW.seq ?_
  have hS := hS.drew
  have hK0 : True := trivial
  refine CW.held (fun _ => True) mixed ?_
  refine AL.take 0 rfl (by kernel_rfl) (by kernel_rfl) (by kernel_rfl) rfl rfl rfl hK0 (fun w hK => Res.sliceA rfl rfl Try.underlying29 (by decide) sz5) ?_
  refine AL.take 1 rfl (by kernel_rfl) (by kernel_rfl) (by kernel_rfl) rfl rfl rfl hK0 (fun w hK => Res.sliceA rfl rfl Try.underlying29 (by decide) sz5) ?_
  refine AL.one 2 rfl (by kernel_rfl) rfl (Stp.callB (args := [_, _]) rfl rfl rfl cal14 rfl rfl hS (encrypt_ok _ _ k b _ _ hS.on (hbk.mono hle1) (hbb.mono hle1) hk hb) ?_)
  rintro _ w M4 hS hle2 hfr2 hkp ⟨s2, rfl, hs2⟩
  have hma4 := hle2 _ _ (hle1 _ _ hma)
  have hmb4 := hle2 _ _ (hle1 _ _ hmb)
  have hK0 : True := trivial
  refine ⟨hK0, ?_⟩
  refine AL.take 3 rfl (by kernel_rfl) (by kernel_rfl) (by kernel_rfl) rfl rfl rfl hK0 (fun w hK => Res.move rfl rfl) ?_
  refine AL.take 4 rfl (by kernel_rfl) (by kernel_rfl) (by kernel_rfl) rfl rfl rfl hK0 (fun w hK => Res.extract (l := [_, _]) rfl rfl rfl) ?_
  refine AL.take 5 rfl (by kernel_rfl) (by kernel_rfl) (by kernel_rfl) rfl rfl rfl hK0 (fun w hK => Res.extract (l := [_, _]) rfl rfl rfl) ?_
  refine AL.take 6 rfl (by kernel_rfl) (by kernel_rfl) (by kernel_rfl) rfl rfl rfl hK0 (fun w hK => Res.assign rfl rfl) ?_
  refine AL.take 7 rfl (by kernel_rfl) (by kernel_rfl) (by kernel_rfl) rfl rfl rfl hK0 (fun w hK => Res.assign rfl rfl) ?_
  refine AL.done (by kernel_rfl) (Thn_n ?_)
  refine CW.seq ?_
  have hS := hS.drew
  have hK0 := hS.on
  refine CW.held (fun w => On M4 w) mixed ?_
  refine AL.take 0 rfl (by kernel_rfl) (by kernel_rfl) (by kernel_rfl) rfl rfl rfl hK0 (fun w hK => Res.move rfl rfl) ?_
  refine AL.take 1 rfl (by kernel_rfl) (by kernel_rfl) (by kernel_rfl) rfl rfl rfl hK0 (fun w hK => Res.to (Res.eql rfl rfl rfl) rfl) ?_
  refine AL.take 2 rfl (by kernel_rfl) (by kernel_rfl) (by kernel_rfl) rfl rfl rfl hK0 (fun w hK => Res.move rfl rfl) ?_
  refine AL.takeG 3 2 true rfl (by kernel_rfl) (by kernel_rfl) (by kernel_rfl) rfl rfl rfl rfl rfl rfl hK0 (fun w hK => Res.move rfl rfl) ?_
  refine AL.takeG 4 2 true rfl (by kernel_rfl) (by kernel_rfl) (by kernel_rfl) rfl rfl rfl rfl rfl rfl hK0 (fun w hK => Res.to (Res.eql rfl rfl rfl) rfl) ?_
  refine AL.take 5 rfl (by kernel_rfl) (by kernel_rfl) (by kernel_rfl) rfl rfl rfl hK0 (fun w hK => Res.pickT rfl rfl rfl) ?_
  refine AL.take 6 rfl (by kernel_rfl) (by kernel_rfl) (by kernel_rfl) rfl rfl rfl hK0 (fun w hK => Res.move rfl rfl) ?_
  refine AL.takeG 7 6 true rfl (by kernel_rfl) (by kernel_rfl) (by kernel_rfl) rfl rfl rfl rfl rfl rfl hK0 (fun w hK => Res.move rfl rfl) ?_
  refine AL.takeG 8 6 true rfl (by kernel_rfl) (by kernel_rfl) (by kernel_rfl) rfl rfl rfl rfl rfl rfl hK0 (fun w hK => Res.move rfl rfl) ?_
  refine AL.takeG 10 6 true rfl (by kernel_rfl) (by kernel_rfl) (by kernel_rfl) rfl rfl rfl rfl rfl rfl hK0 (fun w hK => Res.loadAll rfl rfl Try.underlying29 rfl (by rw [size_bs, ha]; exact sz29) (hK _ _ hma4)) ?_
  refine AL.takeG 11 6 true rfl (by kernel_rfl) (by kernel_rfl) (by kernel_rfl) rfl rfl rfl rfl rfl rfl hK0 (fun w hK => Res.loadAll rfl rfl Try.underlying29 rfl (by rw [size_bs, hb]; exact sz29) (hK _ _ hmb4)) ?_
  refine AL.takeG 12 6 true rfl (by kernel_rfl) (by kernel_rfl) (by kernel_rfl) rfl rfl rfl rfl rfl rfl hK0 (fun w hK => Res.eqlA rfl rfl rfl (by kernel_rfl) Try.underlying29 Try.underlying5 sz5 ⟨ha, hb⟩) ?_
  refine AL.oneG 9 6 true rfl (by kernel_rfl) rfl rfl rfl rfl (Stp.callA (args := [_, _]) rfl rfl rfl cal15 rfl rfl (samebytes_ok _ _ _ _ M4 _ hS.on (hs1.mono hle2) hs2) ?_)
  skip
  refine ⟨hK0, ?_⟩
  refine AL.takeG 13 6 true rfl (by kernel_rfl) (by kernel_rfl) (by kernel_rfl) rfl rfl rfl rfl rfl rfl hK0 (fun w hK => Res.toB (b := (decide (Aes.enc k a = Aes.enc k b) == decide (a = b))) (b' := true) (Res.eqlBool rfl rfl rfl Try.underlying4) (by simp [Aes.enc_inj k ha hb])) ?_
  refine AL.take 14 rfl (by kernel_rfl) (by kernel_rfl) (by kernel_rfl) rfl rfl rfl hK0 (fun w hK => Res.pickT rfl rfl rfl) ?_
  refine AL.take 15 rfl (by kernel_rfl) (by kernel_rfl) (by kernel_rfl) rfl rfl rfl hK0 (fun w hK => Res.move rfl rfl) ?_
  refine AL.takeG 16 15 true rfl (by kernel_rfl) (by kernel_rfl) (by kernel_rfl) rfl rfl rfl rfl rfl rfl hK0 (fun w hK => Res.move rfl rfl) ?_
  refine AL.takeG 18 15 true rfl (by kernel_rfl) (by kernel_rfl) (by kernel_rfl) rfl rfl rfl rfl rfl rfl hK0 (fun w hK => Res.move rfl rfl) ?_
  refine AL.takeG 21 15 true rfl (by kernel_rfl) (by kernel_rfl) (by kernel_rfl) rfl rfl rfl rfl rfl rfl hK0 (fun w hK => Res.move rfl rfl) ?_
  refine AL.takeG 22 15 true rfl (by kernel_rfl) (by kernel_rfl) (by kernel_rfl) rfl rfl rfl rfl rfl rfl hK0 (fun w hK => Res.move rfl rfl) ?_
  refine AL.takeG 23 15 true rfl (by kernel_rfl) (by kernel_rfl) (by kernel_rfl) rfl rfl rfl rfl rfl rfl hK0 (fun w hK => Res.eqlB _ rfl rfl rfl) ?_
  refine AL.oneG 17 15 true rfl (by kernel_rfl) rfl rfl rfl rfl (Stp.callB (args := [_]) rfl rfl rfl cal10 rfl rfl hS (substitute_ok _ _ _ hS.on) ?_)
  rintro _ w _ hS _ _ hkp ⟨rfl, rfl⟩
  have hK0 := hS.on
  refine ⟨hK0, ?_⟩
  refine AL.oneG 19 15 true rfl (by kernel_rfl) rfl rfl rfl rfl (Stp.callB (args := [_]) rfl rfl rfl cal10 rfl rfl hS (substitute_ok _ _ _ hS.on) ?_)
  rintro _ w _ hS _ _ hkp ⟨rfl, rfl⟩
  have hK0 := hS.on
  refine ⟨hK0, ?_⟩
  refine AL.takeG 20 15 true rfl (by kernel_rfl) (by kernel_rfl) (by kernel_rfl) rfl rfl rfl rfl rfl rfl hK0 (fun w hK => Res.eqlB _ rfl rfl rfl) ?_
  refine AL.takeG 24 15 true rfl (by kernel_rfl) (by kernel_rfl) (by kernel_rfl) rfl rfl rfl rfl rfl rfl hK0 (fun w hK => Res.toB (b := (decide (Aes.sub x = Aes.sub y) == decide (x = y))) (b' := true) (Res.eqlBool rfl rfl rfl Try.underlying4) (by simp [Aes.sub_inj])) ?_
  refine AL.take 25 rfl (by kernel_rfl) (by kernel_rfl) (by kernel_rfl) rfl rfl rfl hK0 (fun w hK => Res.pickT rfl rfl rfl) ?_
  refine AL.take 26 rfl (by kernel_rfl) (by kernel_rfl) (by kernel_rfl) rfl rfl rfl hK0 (fun w hK => Res.assign rfl rfl) ?_
  refine AL.done (by kernel_rfl) (Thn_n ?_)
  refine CW.ret ?_
  exact fq_tmp rfl rfl ⟨M, hS.known ((hle0.trans hle1).trans hle2), PH.le.refl _, Fresh.refl _ _, rfl, rfl⟩

theorem law_back (k b : List UInt8) (w0 : World) (M : PH) (hM : On M w0) (hk : k.length = 16) (hb : b.length = 16) : Ok Try.prog 7 #[.agg (bs k), .agg (bs b)] w0 M (fun M' r => M = M' ∧ r = .bool true) := by
  have hS := hM.st
  refine enterB (l := [.agg (bs k), .agg (bs b)]) 63 Try.func7 rfl Try.ntmps7 rfl ?_
  refine CW.seq ?_
  refine CW.region ?_
  refine WL.step rfl (Stp.boxA rfl rfl rfl rfl hS ?_)
  intro b2 w hb2 hS hkp hnw
  refine WL.step rfl (Stp.boxA rfl rfl rfl rfl hS ?_)
  intro b3 w hb3 hS hkp hnw
  refine WL.step rfl (Stp.res rfl rfl (Res.assign rfl rfl) ?_)
  refine WL.nil (Thn_n ?_)
  refine CW.seq ?_
  refine CW.seq ?_
  obtain ⟨M2, hle0, hbk, hmk, hbb, hmb, hS⟩ : ∃ M2, M.le M2 ∧ Bs M2 (.slice (some ⟨b2, 0, none⟩) 16 16) k ∧ M2 b2 = some (.cells (bs k) 29 (0, 0)) ∧ Bs M2 (.slice (some ⟨b3, 0, none⟩) 16 16) b ∧ M2 b3 = some (.cells (bs b) 29 (0, 0)) ∧ St w0 w M2 [] := by
    have hF0 := hS.freeze (i := 0) rfl hb3
    have hF1 := hF0.1.freeze (i := 0) rfl hb2
    exact ⟨_, hF0.2.trans hF1.2, Bs.of' (PH.add_self _ _ _) (hk) (by omega), (PH.add_self _ _ _), Bs.of' (hF1.2 _ _ (PH.add_self _ _ _)) (hb) (by omega), (hF1.2 _ _ (PH.add_self _ _ _)), hF1.1⟩
  refine CW.region ?_
  refine WL.step rfl (Stp.callB (args := []) rfl rfl rfl cal8 rfl rfl hS (works_ok _ _ hS.on) ?_)
  rintro _ w _ hS _ _ hkp ⟨rfl, rfl⟩
  refine WL.step rfl (Stp.res rfl rfl (Res.not rfl rfl rfl) ?_)
  refine WL.nil (Thn_n ?_)
  refine CW.condF rfl ?_
  refine CW.skip (Thn_n ?_)
  refine CW.seq ?_
  have hS := hS.drew
  have hK0 : True := trivial
  refine CW.held (fun _ => True) mixed ?_
  refine AL.take 0 rfl (by kernel_rfl) (by kernel_rfl) (by kernel_rfl) rfl rfl rfl hK0 (fun w hK => Res.sliceA rfl rfl Try.underlying29 (by decide) sz5) ?_
  refine AL.take 1 rfl (by kernel_rfl) (by kernel_rfl) (by kernel_rfl) rfl rfl rfl hK0 (fun w hK => Res.sliceA rfl rfl Try.underlying29 (by decide) sz5) ?_
  refine AL.one 2 rfl (by kernel_rfl) rfl (Stp.callB (args := [_, _]) rfl rfl rfl cal14 rfl rfl hS (encrypt_ok _ _ k (b) _ _ hS.on hbk hbb hk (by first | assumption | simp)) ?_)
  rintro _ w M3 hS hle1 _ hkp ⟨s1, rfl, hs1⟩
  have hK0 : True := trivial
  refine ⟨hK0, ?_⟩
  refine AL.take 3 rfl (by kernel_rfl) (by kernel_rfl) (by kernel_rfl) rfl rfl rfl hK0 (fun w hK => Res.move rfl rfl) ?_
  refine AL.take 4 rfl (by kernel_rfl) (by kernel_rfl) (by kernel_rfl) rfl rfl rfl hK0 (fun w hK => Res.extract (l := [_, _]) rfl rfl rfl) ?_
  refine AL.take 5 rfl (by kernel_rfl) (by kernel_rfl) (by kernel_rfl) rfl rfl rfl hK0 (fun w hK => Res.extract (l := [_, _]) rfl rfl rfl) ?_
  refine AL.take 6 rfl (by kernel_rfl) (by kernel_rfl) (by kernel_rfl) rfl rfl rfl hK0 (fun w hK => Res.assign rfl rfl) ?_
  refine AL.take 7 rfl (by kernel_rfl) (by kernel_rfl) (by kernel_rfl) rfl rfl rfl hK0 (fun w hK => Res.assign rfl rfl) ?_
  refine AL.done (by kernel_rfl) (Thn_n ?_)
  refine CW.seq ?_
  refine CW.region ?_
  refine WL.step rfl (Stp.res rfl rfl (Res.sliceA rfl rfl Try.underlying29 (by decide) sz5) ?_)
  refine WL.step rfl (Stp.res rfl rfl (Res.move rfl rfl) ?_)
  refine WL.step rfl (Stp.callB (args := [_, _]) rfl rfl rfl cal18 rfl rfl hS (decrypt_ok _ _ k (Aes.enc k b) _ _ hS.on (hbk.mono hle1) hs1 hk (by first | assumption | simp)) ?_)
  rintro _ w M4 hS hle2 _ hkp ⟨s2, rfl, hs2⟩
  refine WL.step rfl (Stp.res rfl rfl (Res.move rfl rfl) ?_)
  refine WL.step rfl (Stp.res rfl rfl (Res.extract (l := [_, _]) rfl rfl rfl) ?_)
  refine WL.step rfl (Stp.res rfl rfl (Res.extract (l := [_, _]) rfl rfl rfl) ?_)
  refine WL.step rfl (Stp.res rfl rfl (Res.assign rfl rfl) ?_)
  refine WL.step rfl (Stp.res rfl rfl (Res.assign rfl rfl) ?_)
  refine WL.nil (Thn_n ?_)
  refine CW.seq ?_
  have hS := hS.drew
  have hK0 : True := trivial
  refine CW.held (fun _ => True) mixed ?_
  refine AL.take 0 rfl (by kernel_rfl) (by kernel_rfl) (by kernel_rfl) rfl rfl rfl hK0 (fun w hK => Res.sliceA rfl rfl Try.underlying29 (by decide) sz5) ?_
  refine AL.take 1 rfl (by kernel_rfl) (by kernel_rfl) (by kernel_rfl) rfl rfl rfl hK0 (fun w hK => Res.sliceA rfl rfl Try.underlying29 (by decide) sz5) ?_
  refine AL.one 2 rfl (by kernel_rfl) rfl (Stp.callB (args := [_, _]) rfl rfl rfl cal18 rfl rfl hS (decrypt_ok _ _ k (b) _ _ hS.on (hbk.mono (hle1.trans hle2)) (hbb.mono (hle1.trans hle2)) hk (by first | assumption | simp)) ?_)
  rintro _ w M5 hS hle3 _ hkp ⟨s3, rfl, hs3⟩
  have hK0 : True := trivial
  refine ⟨hK0, ?_⟩
  refine AL.take 3 rfl (by kernel_rfl) (by kernel_rfl) (by kernel_rfl) rfl rfl rfl hK0 (fun w hK => Res.move rfl rfl) ?_
  refine AL.take 4 rfl (by kernel_rfl) (by kernel_rfl) (by kernel_rfl) rfl rfl rfl hK0 (fun w hK => Res.extract (l := [_, _]) rfl rfl rfl) ?_
  refine AL.take 5 rfl (by kernel_rfl) (by kernel_rfl) (by kernel_rfl) rfl rfl rfl hK0 (fun w hK => Res.extract (l := [_, _]) rfl rfl rfl) ?_
  refine AL.take 6 rfl (by kernel_rfl) (by kernel_rfl) (by kernel_rfl) rfl rfl rfl hK0 (fun w hK => Res.assign rfl rfl) ?_
  refine AL.take 7 rfl (by kernel_rfl) (by kernel_rfl) (by kernel_rfl) rfl rfl rfl hK0 (fun w hK => Res.assign rfl rfl) ?_
  refine AL.done (by kernel_rfl) (Thn_n ?_)
  refine CW.seq ?_
  refine CW.region ?_
  refine WL.step rfl (Stp.res rfl rfl (Res.sliceA rfl rfl Try.underlying29 (by decide) sz5) ?_)
  refine WL.step rfl (Stp.res rfl rfl (Res.move rfl rfl) ?_)
  refine WL.step rfl (Stp.callB (args := [_, _]) rfl rfl rfl cal14 rfl rfl hS (encrypt_ok _ _ k (Aes.dec k b) _ _ hS.on ((hbk.mono hle1).mono (hle2.trans hle3)) hs3 hk (by first | assumption | simp)) ?_)
  rintro _ w M6 hS hle4 _ hkp ⟨s4, rfl, hs4⟩
  refine WL.step rfl (Stp.res rfl rfl (Res.move rfl rfl) ?_)
  refine WL.step rfl (Stp.res rfl rfl (Res.extract (l := [_, _]) rfl rfl rfl) ?_)
  refine WL.step rfl (Stp.res rfl rfl (Res.extract (l := [_, _]) rfl rfl rfl) ?_)
  refine WL.step rfl (Stp.res rfl rfl (Res.assign rfl rfl) ?_)
  refine WL.step rfl (Stp.res rfl rfl (Res.assign rfl rfl) ?_)
  refine WL.nil (Thn_n ?_)
  refine CW.seq ?_
  refine CW.region ?_
  refine WL.step rfl (Stp.res rfl rfl (Res.move rfl rfl) ?_)
  refine WL.step rfl (Stp.res rfl rfl (Res.to (Res.eql rfl rfl rfl) rfl) ?_)
  refine WL.step rfl (Stp.res rfl rfl (Res.move rfl rfl) ?_)
  refine WL.stepG 2 true rfl rfl rfl rfl (Stp.res rfl rfl (Res.move rfl rfl) ?_)
  refine WL.stepG 2 true rfl rfl rfl rfl (Stp.res rfl rfl (Res.to (Res.eql rfl rfl rfl) rfl) ?_)
  refine WL.step rfl (Stp.res rfl rfl (Res.pickT rfl rfl rfl) ?_)
  refine WL.step rfl (Stp.res rfl rfl (Res.move rfl rfl) ?_)
  refine WL.stepG 6 true rfl rfl rfl rfl (Stp.res rfl rfl (Res.move rfl rfl) ?_)
  refine WL.stepG 6 true rfl rfl rfl rfl (Stp.res rfl rfl (Res.to (Res.eql rfl rfl rfl) rfl) ?_)
  refine WL.step rfl (Stp.res rfl rfl (Res.pickT rfl rfl rfl) ?_)
  refine WL.step rfl (Stp.res rfl rfl (Res.move rfl rfl) ?_)
  refine WL.stepG 10 true rfl rfl rfl rfl (Stp.res rfl rfl (Res.move rfl rfl) ?_)
  refine WL.stepG 10 true rfl rfl rfl rfl (Stp.res rfl rfl (Res.to (Res.eql rfl rfl rfl) rfl) ?_)
  refine WL.step rfl (Stp.res rfl rfl (Res.pickT rfl rfl rfl) ?_)
  refine WL.step rfl (Stp.res rfl rfl (Res.move rfl rfl) ?_)
  refine WL.stepG 14 true rfl rfl rfl rfl (Stp.res rfl rfl (Res.move rfl rfl) ?_)
  refine WL.stepG 14 true rfl rfl rfl rfl (Stp.res rfl rfl (Res.sliceA rfl rfl Try.underlying29 (by decide) sz5) ?_)
  refine WL.stepG 14 true rfl rfl rfl rfl (Stp.callA (args := [_, _]) rfl rfl rfl cal15 rfl rfl (samebytes_t _ _ _ _ M6 _ hS.on (hs2.mono (hle3.trans hle4)) (hbb.mono ((hle1.trans hle2).trans (hle3.trans hle4))) (Aes.dec_enc k hb)) ?_)
  refine WL.step rfl (Stp.res rfl rfl (Res.pickT rfl rfl rfl) ?_)
  refine WL.step rfl (Stp.res rfl rfl (Res.move rfl rfl) ?_)
  refine WL.stepG 19 true rfl rfl rfl rfl (Stp.res rfl rfl (Res.move rfl rfl) ?_)
  refine WL.stepG 19 true rfl rfl rfl rfl (Stp.res rfl rfl (Res.sliceA rfl rfl Try.underlying29 (by decide) sz5) ?_)
  refine WL.stepG 19 true rfl rfl rfl rfl (Stp.callA (args := [_, _]) rfl rfl rfl cal15 rfl rfl (samebytes_t _ _ _ _ M6 _ hS.on hs4 (hbb.mono ((hle1.trans hle2).trans (hle3.trans hle4))) (Aes.enc_dec k hb)) ?_)
  refine WL.step rfl (Stp.res rfl rfl (Res.pickT rfl rfl rfl) ?_)
  refine WL.step rfl (Stp.res rfl rfl (Res.assign rfl rfl) ?_)
  refine WL.nil (Thn_n ?_)
  refine CW.ret ?_
  exact fq_tmp rfl rfl ⟨M, hS.known (((hle0.trans hle1).trans hle2).trans (hle3.trans hle4)), PH.le.refl _, Fresh.refl _ _, rfl, rfl⟩
end Go.Proofs.Ytanogodfnfkkbaa
