/- Own text of this seat (A5): lemmas on the way to the statement; no condition of its own. -/
import Derived.Test.YtanogodfnfkkbaaA4
set_option linter.unusedVariables false
namespace Go.Proofs.Ytanogodfnfkkbaa
open Go Go.E
theorem samebytes_ok (v u : Value) (a b : List UInt8) (M : PH) (w : World) (hM : On M w) (ha : Bs M v a) (hb : Bs M u b) : Calls Try.prog 15 #[v, u] w fun e w' => ∃ r, e = .returned r ∧ r = .bool (decide (a = b)) ∧ w' = w := by
  have hS := hM.st
  refine enter (l := [v, u]) 10 Try.func15 rfl Try.ntmps15 rfl ?_
  refine CW.seq ?_
  refine CW.region ?_
  refine WL.step rfl (Stp.res rfl rfl (Res.assign rfl rfl) ?_)
  refine WL.nil (Thn_n ?_)
  refine CW.seq ?_
  refine CW.region ?_
  refine WL.step rfl (Stp.res rfl rfl (Res.move rfl rfl) ?_)
  refine WL.step rfl (Stp.res rfl rfl (Res.b2s rfl rfl hS ha Try.underlying26 Try.underlying5 Try.underlying9) ?_)
  refine WL.step rfl (Stp.res rfl rfl (Res.move rfl rfl) ?_)
  refine WL.step rfl (Stp.res rfl rfl (Res.b2s rfl rfl hS hb Try.underlying26 Try.underlying5 Try.underlying9) ?_)
  refine WL.step rfl (Stp.res rfl rfl (Res.eqlS rfl rfl rfl) ?_)
  refine WL.step rfl (Stp.res rfl rfl (Res.assign rfl rfl) ?_)
  refine WL.nil (Thn_n ?_)
  refine CW.ret ?_
  exact fq_tmp rfl rfl ⟨rfl, rfl⟩

theorem bytes_ok (v : Value) (l : List UInt8) (w0 : World) (M : PH) (hM : On M w0) (hl : Bs M v l) (hlen : l.length ≤ 140737488355328) : Ok Try.prog 16 #[v] w0 M (fun M' r => Bs M' r l) := by
  have hS := hM.st
  refine enterB (l := [v]) 6 Try.func16 rfl Try.ntmps16 rfl ?_
  refine CW.seq ?_
  refine CW.region ?_
  refine WL.step rfl (Stp.res rfl rfl (Res.assign rfl rfl) ?_)
  refine WL.nil (Thn_n ?_)
  refine CW.seq ?_
  refine CW.region ?_
  refine WL.step rfl (Stp.lit (vals := []) (cs := bs []) (e := 5) rfl rfl (fun _ => by kernel_rfl) rfl rfl hS ?_)
  intro b3 w hb3 hS hkp hnw
  refine WL.step rfl (Stp.res rfl rfl (Res.move rfl rfl) ?_)
  refine WL.step rfl (Stp.appendB (l := []) (r := l) rfl rfl rfl rfl et26 (Src.ofBs Try.underlying26 hS hl) hS (OwnB.of hb3 (Nat.le_refl 0) (by omega) [] rfl rfl) (by simpa using hlen) rfl rfl ?_)
  intro v' w g' hS hown
  refine WL.step rfl (Stp.res rfl rfl (Res.assign rfl rfl) ?_)
  refine WL.nil (Thn_n ?_)
  refine CW.ret ?_
  obtain ⟨M1, h1, h2, h3, h4⟩ := hown.give hS
  exact fq_tmp rfl rfl ⟨M1, h1, h2, h3, h4⟩

theorem works_ok  (w0 : World) (M : PH) (hM : On M w0)  : Ok Try.prog 8 #[] w0 M (fun M' r => M = M' ∧ r = .bool true) := by
  have hS := hM.st
  refine enterB (l := []) 60 Try.func8 rfl Try.ntmps8 rfl ?_
  refine CW.seq ?_
  refine CW.region ?_
  refine WL.step rfl (Stp.res rfl rfl (Res.assign rfl rfl) ?_)
  refine WL.nil (Thn_n ?_)
  refine CW.seq ?_
  have hS := hS.drew
  refine CW.post (fun L' w' => ∃ b6 b7, w0.heap.size ≤ b6 ∧ w0.heap.size ≤ b7 ∧ Sub [(1, .slice (some ⟨b6, 0, none⟩) 16 16), (2, .slice (some ⟨b7, 0, none⟩) 16 16)] L' ∧ St w0 w' M [(b6, .cells (bs (List.replicate 16 0)) 5 (0, 0)), (b7, .cells (bs (List.replicate 16 0)) 5 (0, 0))]) ?_ ?_
  · have hK0 : True := trivial
    refine CW.held (fun _ => True) mixed ?_
    refine AL.two 0 1 rfl rfl (by kernel_rfl) rfl rfl ?_ ?_
    · refine Stp.makeB (k := 16) (c := 16) rfl rfl rfl et26 ⟨Nat.le_refl 16, by decide⟩ rfl rfl hS ?_
      intro b6 w hb6 hS hkp hnw
      have hK0 : True := trivial
      refine ⟨hK0, ?_⟩
      refine AL.take 2 rfl (by kernel_rfl) (by kernel_rfl) (by kernel_rfl) rfl rfl rfl hK0 (fun w hK => Res.assign rfl rfl) ?_
      refine AL.one 1 rfl (by kernel_rfl) rfl (Stp.makeB (k := 16) (c := 16) rfl rfl rfl et26 ⟨Nat.le_refl 16, by decide⟩ rfl rfl hS ?_)
      intro b7 w hb7 hS hkp hnw
      have hK0 : True := trivial
      refine ⟨hK0, ?_⟩
      refine AL.take 3 rfl (by kernel_rfl) (by kernel_rfl) (by kernel_rfl) rfl rfl rfl hK0 (fun w hK => Res.assign rfl rfl) ?_
      refine AL.done (by kernel_rfl) (Thn_n ?_)
      first | exact ⟨b6, b7, hb6, hb7, ⟨rfl, rfl, trivial⟩, hS⟩ | exact ⟨b6, b7, hb6, hb7, ⟨rfl, rfl, trivial⟩, hS.swap⟩
    · refine Stp.makeB (k := 16) (c := 16) rfl rfl rfl et26 ⟨Nat.le_refl 16, by decide⟩ rfl rfl hS ?_
      intro b7 w hb7 hS hkp hnw
      have hK0 : True := trivial
      refine ⟨hK0, ?_⟩
      refine AL.one 0 rfl (by kernel_rfl) rfl (Stp.makeB (k := 16) (c := 16) rfl rfl rfl et26 ⟨Nat.le_refl 16, by decide⟩ rfl rfl hS ?_)
      intro b6 w hb6 hS hkp hnw
      have hK0 : True := trivial
      refine ⟨hK0, ?_⟩
      refine AL.take 2 rfl (by kernel_rfl) (by kernel_rfl) (by kernel_rfl) rfl rfl rfl hK0 (fun w hK => Res.assign rfl rfl) ?_
      refine AL.take 3 rfl (by kernel_rfl) (by kernel_rfl) (by kernel_rfl) rfl rfl rfl hK0 (fun w hK => Res.assign rfl rfl) ?_
      refine AL.done (by kernel_rfl) (Thn_n ?_)
      first | exact ⟨b6, b7, hb6, hb7, ⟨rfl, rfl, trivial⟩, hS⟩ | exact ⟨b6, b7, hb6, hb7, ⟨rfl, rfl, trivial⟩, hS.swap⟩
  · rintro L w ⟨b6, b7, hb6, hb7, hsub, hS⟩
    refine (Thn_n (CW.sub hsub ?_))
    refine CW.seq ?_
    refine CW.seq ?_
    refine CW.region ?_
    refine WL.step rfl (Stp.res rfl rfl (Res.assign rfl rfl) ?_)
    refine WL.nil (Thn_n ?_)
    refine CW.block ?_
    refine CW.loop (σ := Nat) (fun i => [(1, .slice (some ⟨b6, 0, none⟩) 16 16), (2, .slice (some ⟨b7, 0, none⟩) 16 16), (3, .int .i64 i)])
      (fun i w' => i ≤ 16 ∧ St w0 w' M [(b6, .cells (bs (Aes.upTo i (fun j => UInt8.ofNat j) (List.replicate 16 0))) 5 (0, 0)), (b7, .cells (bs (Aes.upTo i (fun j => UInt8.ofNat (17 * j)) (List.replicate 16 0))) 5 (0, 0))]) (fun i => 16 - i) 0 ⟨rfl, rfl, rfl, trivial⟩ ⟨by omega, by rw [Aes.upTo_zero, Aes.upTo_zero]; exact hS⟩ ?_
    rintro i w1 ⟨hi, hS⟩
    refine CW.seq ?_
    refine CW.seq ?_
    refine CW.region ?_
    refine WL.step rfl (Stp.res rfl rfl (Res.move rfl rfl) ?_)
    refine WL.step rfl (Stp.res rfl rfl (Res.lss rfl rfl rfl) ?_)
    refine WL.nil (Thn_n ?_)
    refine CW.ite rfl (fun h => ?_) (fun h => ?_)
    · obtain hlt : i < 16 := by omega
      refine CW.skip (Thn_n ?_)
      refine CW.seq ?_
      refine CW.block ?_
      refine CW.region ?_
      refine WL.step rfl (Stp.res rfl rfl (Res.move rfl rfl) ?_)
      refine WL.step rfl (Stp.res rfl rfl (Res.move rfl rfl) ?_)
      refine WL.step rfl (Stp.res rfl rfl (Res.move rfl rfl) ?_)
      refine WL.step rfl (Stp.res rfl rfl (Res.move rfl rfl) ?_)
      refine WL.step rfl (Stp.res rfl rfl (Res.move rfl rfl) ?_)
      refine WL.step rfl (Stp.res rfl rfl (Res.convB (k := i) rfl rfl Try.underlying3 Try.underlying5) ?_)
      refine WL.step rfl (Stp.res rfl rfl (Res.move rfl rfl) ?_)
      refine WL.step rfl (Stp.res rfl rfl (Res.mul rfl rfl rfl (by omega)) ?_)
      refine WL.step rfl (Stp.res rfl rfl (Res.convB (k := 17 * i) rfl rfl Try.underlying3 Try.underlying5) ?_)
      refine WL.step rfl (Stp.res rfl rfl (Res.idxS0 (k := i) rfl rfl rfl Try.underlying26 sz5 (Int.toNat_natCast i) (by omega)) ?_)
      refine WL.step rfl (Stp.storeB 0 rfl rfl rfl sz5 rfl hS rfl (by rw [Aes.upTo_length, List.length_replicate]; omega) ?_)
      intro w hS hpt
      refine WL.step rfl (Stp.res rfl rfl (Res.idxS0 (k := i) rfl rfl rfl Try.underlying26 sz5 (Int.toNat_natCast i) (by omega)) ?_)
      refine WL.step rfl (Stp.storeB 1 rfl rfl rfl sz5 rfl hS rfl (by rw [Aes.upTo_length, List.length_replicate]; omega) ?_)
      intro w hS hpt
      refine WL.nil (Blk_n (Thn_n ?_))
      refine CW.region ?_
      refine WL.step rfl (Stp.res rfl rfl (Res.move rfl rfl) ?_)
      refine WL.step rfl (Stp.res rfl rfl (Res.add rfl rfl rfl (by omega)) ?_)
      refine WL.step rfl (Stp.res rfl rfl (Res.assign rfl rfl) ?_)
      refine WL.nil (Thn_n ?_)
      refine ⟨i + 1, ⟨rfl, rfl, rfl, trivial⟩, ⟨by omega, ?_⟩, by omega⟩
      rw [← Aes.upTo_set, ← Aes.upTo_set]
      exact hS
    · obtain rfl : i = 16 := by omega
      refine CW.exit (Thn_x (Thn_x (Blk_x (Thn_n ?_))))
      refine CW.seq ?_
      rw [Aes.upTo_all _ _ 16 (List.length_replicate ..), Aes.upTo_all _ _ 16 (List.length_replicate ..)] at hS
      change St w0 w1 M [(b6, .cells (bs (Aes.wk)) 5 (0, 0)), (b7, .cells (bs (Aes.wb)) 5 (0, 0))] at hS
      have hF := hS.freeze (i := 0) rfl hb6
      have hG := hF.1.freeze (i := 0) rfl hb7
      obtain ⟨M2, hle, hkk, hbb, hS⟩ : ∃ M2, M.le M2 ∧ Bs M2 (.slice (some ⟨b6, 0, none⟩) 16 16) Aes.wk ∧ Bs M2 (.slice (some ⟨b7, 0, none⟩) 16 16) Aes.wb ∧ St w0 w1 M2 [] := ⟨_, hF.2.trans hG.2, Bs.mono hG.2 (Bs.of' (PH.add_self _ _ _) (by simp [Aes.wk]) (by omega)), Bs.of' (PH.add_self _ _ _) (by simp [Aes.wb]) (by omega), hG.1⟩
      refine CW.region ?_
      refine WL.step rfl (Stp.res rfl rfl (Res.move rfl rfl) ?_)
      refine WL.step rfl (Stp.res rfl rfl (Res.move rfl rfl) ?_)
      refine WL.step rfl (Stp.callB (args := [_, _]) rfl rfl rfl cal14 rfl rfl hS (encrypt_ok _ _ (Aes.wk) (Aes.wb) _ _ hS.on hkk hbb (by simp [Aes.wk]) (by simp [Aes.wb])) ?_)
      rintro _ w M' hS hle' hfr hkp ⟨s, rfl, hs⟩
      obtain ⟨eb, eo, ec, rfl, he1, he2, hcell⟩ := hs.at (by simp)
      refine WL.step rfl (Stp.res rfl rfl (Res.move rfl rfl) ?_)
      refine WL.step rfl (Stp.res rfl rfl (Res.extract (l := [_, _]) rfl rfl rfl) ?_)
      refine WL.step rfl (Stp.res rfl rfl (Res.extract (l := [_, _]) rfl rfl rfl) ?_)
      refine WL.step rfl (Stp.res rfl rfl (Res.assign rfl rfl) ?_)
      refine WL.step rfl (Stp.res rfl rfl (Res.assign rfl rfl) ?_)
      refine WL.nil (Thn_n ?_)
      refine CW.seq ?_
      refine CW.region ?_
      refine WL.step rfl (Stp.res rfl rfl (Res.move rfl rfl) ?_)
      refine WL.step rfl (Stp.res rfl rfl (Res.eql rfl rfl rfl) ?_)
      refine WL.step rfl (Stp.res rfl rfl (Res.move rfl rfl) ?_)
      refine WL.stepG 2 true rfl rfl rfl rfl (Stp.res rfl rfl (Res.move rfl rfl) ?_)
      refine WL.stepG 2 true rfl rfl rfl rfl (Stp.res rfl rfl (Res.len rfl rfl rfl rfl Try.underlying26) ?_)
      refine WL.stepG 2 true rfl rfl rfl rfl (Stp.res rfl rfl (Res.to (Res.eql rfl rfl rfl) (by rw [Aes.enc_length]; rfl)) ?_)
      refine WL.step rfl (Stp.res rfl rfl (Res.pickT rfl rfl rfl) ?_)
      refine WL.step rfl (Stp.res rfl rfl (Res.move rfl rfl) ?_)
      refine WL.stepG 7 true rfl rfl rfl rfl (Stp.res rfl rfl (Res.move rfl rfl) ?_)
      refine WL.stepG 7 true rfl rfl rfl rfl (Stp.res rfl rfl (Res.idxS1 (k := 0) rfl rfl rfl Try.underlying26 sz5 rfl (by rw [Aes.enc_length]; omega)) ?_)
      refine WL.stepG 7 true rfl rfl rfl rfl (Stp.res rfl rfl (Res.load1 rfl rfl Try.underlying5 rfl (hS.cell (hcell 0 (by rw [Aes.enc_length]; omega)))) ?_)
      refine WL.stepG 7 true rfl rfl rfl rfl (Stp.res rfl rfl (Res.to (Res.eqlB 105 rfl rfl rfl) Aes.works_0) ?_)
      refine WL.step rfl (Stp.res rfl rfl (Res.pickT rfl rfl rfl) ?_)
      refine WL.step rfl (Stp.res rfl rfl (Res.move rfl rfl) ?_)
      refine WL.stepG 13 true rfl rfl rfl rfl (Stp.res rfl rfl (Res.move rfl rfl) ?_)
      refine WL.stepG 13 true rfl rfl rfl rfl (Stp.res rfl rfl (Res.idxS1 (k := 1) rfl rfl rfl Try.underlying26 sz5 rfl (by rw [Aes.enc_length]; omega)) ?_)
      refine WL.stepG 13 true rfl rfl rfl rfl (Stp.res rfl rfl (Res.load1 rfl rfl Try.underlying5 rfl (hS.cell (hcell 1 (by rw [Aes.enc_length]; omega)))) ?_)
      refine WL.stepG 13 true rfl rfl rfl rfl (Stp.res rfl rfl (Res.to (Res.eqlB 196 rfl rfl rfl) Aes.works_1) ?_)
      refine WL.step rfl (Stp.res rfl rfl (Res.pickT rfl rfl rfl) ?_)
      refine WL.step rfl (Stp.res rfl rfl (Res.move rfl rfl) ?_)
      refine WL.stepG 19 true rfl rfl rfl rfl (Stp.res rfl rfl (Res.move rfl rfl) ?_)
      refine WL.stepG 19 true rfl rfl rfl rfl (Stp.res rfl rfl (Res.idxS1 (k := 2) rfl rfl rfl Try.underlying26 sz5 rfl (by rw [Aes.enc_length]; omega)) ?_)
      refine WL.stepG 19 true rfl rfl rfl rfl (Stp.res rfl rfl (Res.load1 rfl rfl Try.underlying5 rfl (hS.cell (hcell 2 (by rw [Aes.enc_length]; omega)))) ?_)
      refine WL.stepG 19 true rfl rfl rfl rfl (Stp.res rfl rfl (Res.to (Res.eqlB 224 rfl rfl rfl) Aes.works_2) ?_)
      refine WL.step rfl (Stp.res rfl rfl (Res.pickT rfl rfl rfl) ?_)
      refine WL.step rfl (Stp.res rfl rfl (Res.move rfl rfl) ?_)
      refine WL.stepG 25 true rfl rfl rfl rfl (Stp.res rfl rfl (Res.move rfl rfl) ?_)
      refine WL.stepG 25 true rfl rfl rfl rfl (Stp.res rfl rfl (Res.idxS1 (k := 3) rfl rfl rfl Try.underlying26 sz5 rfl (by rw [Aes.enc_length]; omega)) ?_)
      refine WL.stepG 25 true rfl rfl rfl rfl (Stp.res rfl rfl (Res.load1 rfl rfl Try.underlying5 rfl (hS.cell (hcell 3 (by rw [Aes.enc_length]; omega)))) ?_)
      refine WL.stepG 25 true rfl rfl rfl rfl (Stp.res rfl rfl (Res.to (Res.eqlB 216 rfl rfl rfl) Aes.works_3) ?_)
      refine WL.step rfl (Stp.res rfl rfl (Res.pickT rfl rfl rfl) ?_)
      refine WL.step rfl (Stp.res rfl rfl (Res.assign rfl rfl) ?_)
      refine WL.nil (Thn_n ?_)
      refine CW.ret ?_
      exact fq_tmp rfl rfl ⟨M, hS.known (hle.trans hle'), PH.le.refl _, Fresh.refl _ _, rfl, rfl⟩

theorem samebytes_t (v u : Value) (a b : List UInt8) (M : PH) (w : World) (hM : On M w) (ha : Bs M v a) (hb : Bs M u b) (hab : a = b) : Calls Try.prog 15 #[v, u] w fun e w' => ∃ r, e = .returned r ∧ r = .bool true ∧ w' = w :=
  (samebytes_ok v u a b M w hM ha hb).mono fun e w' ⟨r, h1, h2, h3⟩ => ⟨r, h1, by rw [h2, decide_eq_true hab], h3⟩
end Go.Proofs.Ytanogodfnfkkbaa
