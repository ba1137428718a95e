/- Own text of this seat (A2): lemmas on the way to the statement; no condition of its own. -/
import Derived.Test.YtanogodfnfkkbaaA1
set_option linter.unusedVariables false
namespace Go.Proofs.Ytanogodfnfkkbaa
open Go Go.E
theorem mix_ok (l m : List UInt8) (T : TypeId) (w0 : World) (M : PH) (hM : On M w0) (b : Nat) (hb : w0.heap[b]? = some (.cells (bs l) T (0, 0))) (hmb : M b = none) (hl : l.length = 16) (hm : m.length = 4) : OkO Try.prog 27 #[.pointer (some ⟨b, 0, none⟩), .agg (bs m)] w0 M b (fun M' o' v => M = M' ∧ o' = .cells (bs (Aes.mixB l m)) T (0, 0) ∧ v = .tuple #[]) := by
  have hS := hM.st1 hb hmb
  refine enterO (l := [.pointer (some ⟨b, 0, none⟩), .agg (bs m)]) 40 Try.func27 rfl Try.ntmps27 rfl ?_
  refine CW.seq ?_
  refine CW.region ?_
  refine WL.step rfl (Stp.boxA rfl rfl rfl rfl hS ?_)
  intro b3 w hb3 hS hkp hnw
  refine WL.nil (Thn_n ?_)
  refine CW.seq ?_
  refine CW.region ?_
  refine WL.step rfl (Stp.res rfl rfl (Res.move rfl rfl) ?_)
  refine WL.step rfl (Stp.res rfl rfl (Res.nilCheck rfl rfl) ?_)
  refine WL.step rfl (Stp.res rfl rfl (Res.loadAll rfl rfl Try.underlying54 rfl (by rw [size_bs, hl]; exact sz54) (hS.get (i := 1) rfl)) ?_)
  refine WL.step rfl (Stp.alloc (cs := bs (List.replicate 16 0)) rfl z54 rfl rfl rfl hS ?_)
  intro b4 w hb4 hS hkp hnw
  first | refine WL.step rfl (Stp.storeAllB 0 rfl rfl rfl sz54 rfl hS rfl (by first | omega | (simp; omega)) ?_) | refine WL.step rfl (Stp.storeAllB 1 rfl rfl rfl sz54 rfl hS rfl (by first | omega | (simp; omega)) ?_) | refine WL.step rfl (Stp.storeAllB 2 rfl rfl rfl sz54 rfl hS rfl (by first | omega | (simp; omega)) ?_)
  intro w hS hpt
  refine WL.nil (Thn_n ?_)
  refine CW.seq ?_
  refine CW.region ?_
  refine WL.step rfl (Stp.res rfl rfl (Res.move rfl rfl) ?_)
  refine WL.nil (Thn_n ?_)
  refine CW.block ?_
  refine CW.loop (σ := Nat) (fun i => [(0, .pointer (some ⟨b, 0, none⟩)), (3, .pointer (some ⟨b3, 0, none⟩)), (4, .pointer (some ⟨b4, 0, none⟩)), (12, .int .i64 i)])
    (fun i w' => i ≤ 16 ∧ St w0 w' M [(b4, .cells (bs l) 54 (0, 0)), (b3, .cells (bs m) 49 (0, 0)), (b, .cells (bs (Aes.upTo i (fun i => Aes.mixAcc l m i 4) l)) T (0, 0))]) (fun i => 16 - i) 0 ⟨rfl, rfl, rfl, rfl, trivial⟩ ⟨by omega, by rw [Aes.upTo_zero]; exact hS⟩ ?_
  rintro i w1 ⟨hi, hS⟩
  refine CW.seq ?_
  refine CW.region ?_
  refine WL.step rfl (Stp.res rfl rfl (Res.lss rfl rfl rfl) ?_)
  refine WL.nil (Thn_n ?_)
  refine CW.seq ?_
  refine CW.ite rfl (fun h => ?_) (fun h => ?_)
  · obtain hlt : i < 16 := by omega
    refine CW.skip (Thn_n ?_)
    refine CW.seq ?_
    refine CW.block ?_
    refine CW.seq ?_
    refine CW.region ?_
    refine WL.step rfl (Stp.res rfl rfl (Res.move rfl rfl) ?_)
    refine WL.step rfl (Stp.res rfl rfl (Res.assign rfl rfl) ?_)
    refine WL.nil (Thn_n ?_)
    refine CW.seq ?_
    refine CW.region ?_
    refine WL.step rfl (Stp.res rfl rfl (Res.assign (v := byte 0) rfl rfl) ?_)
    refine WL.nil (Thn_n ?_)
    refine CW.seq ?_
    refine CW.seq ?_
    refine CW.region ?_
    refine WL.step rfl (Stp.res rfl rfl (Res.loadAll rfl rfl Try.underlying49 rfl (by rw [size_bs, hm]; exact sz49) (hS.get (i := 1) rfl)) ?_)
    refine WL.step rfl (Stp.res rfl rfl (Res.move rfl rfl) ?_)
    refine WL.nil (Thn_n ?_)
    refine CW.block ?_
    refine CW.loop (σ := Nat) (fun k => [(0, .pointer (some ⟨b, 0, none⟩)), (3, .pointer (some ⟨b3, 0, none⟩)), (4, .pointer (some ⟨b4, 0, none⟩)), (12, .int .i64 i), (5, .int .i64 i), (6, byte (Aes.mixAcc l m i k)), (15, .agg (bs m)), (16, .int .i64 k)])
      (fun k w' => k ≤ 4 ∧ St w0 w' M [(b4, .cells (bs l) 54 (0, 0)), (b3, .cells (bs m) 49 (0, 0)), (b, .cells (bs (Aes.upTo i (fun i => Aes.mixAcc l m i 4) l)) T (0, 0))]) (fun k => 4 - k) 0 ⟨rfl, rfl, rfl, rfl, rfl, rfl, rfl, rfl, trivial⟩ ⟨by omega, hS⟩ ?_
    rintro k w2 ⟨hk, hS⟩
    refine CW.seq ?_
    refine CW.region ?_
    refine WL.step rfl (Stp.res rfl rfl (Res.lss rfl rfl rfl) ?_)
    refine WL.nil (Thn_n ?_)
    refine CW.seq ?_
    refine CW.ite rfl (fun h => ?_) (fun h => ?_)
    · obtain hlk : k < 4 := by omega
      refine CW.skip (Thn_n ?_)
      refine CW.seq ?_
      refine CW.block ?_
      refine CW.seq ?_
      refine CW.region ?_
      refine WL.step rfl (Stp.res rfl rfl (Res.move rfl rfl) ?_)
      refine WL.step rfl (Stp.res rfl rfl (Res.index1 (v := byte (m.getD k 0)) rfl rfl rfl Try.underlying49 sz5 Try.underlying5 rfl (Int.toNat_natCast k) (by omega) (bs_get (by omega))) ?_)
      refine WL.step rfl (Stp.res rfl rfl (Res.assign rfl rfl) ?_)
      refine WL.step rfl (Stp.res rfl rfl (Res.assign rfl rfl) ?_)
      refine WL.nil (Thn_n ?_)
      refine CW.region ?_
      refine WL.step rfl (Stp.res rfl rfl (Res.move rfl rfl) ?_)
      refine WL.step rfl (Stp.res rfl rfl (Res.move rfl rfl) ?_)
      refine WL.step rfl (Stp.res rfl rfl (Res.andNotI (a := i) (b := 3) rfl rfl rfl (by omega)) ?_)
      refine WL.step rfl (Stp.res rfl rfl (Res.move rfl rfl) ?_)
      refine WL.step rfl (Stp.res rfl rfl (Res.move rfl rfl) ?_)
      refine WL.step rfl (Stp.res rfl rfl (Res.add rfl rfl rfl (by omega)) ?_)
      refine WL.step rfl (Stp.res rfl rfl (Res.andI (a := i + k) (b := 3) rfl rfl rfl (by omega)) ?_)
      refine WL.step rfl (Stp.res rfl rfl (Res.orI rfl rfl rfl (Aes.mix_lt' hlt hlk)) ?_)
      refine WL.step rfl (Stp.res rfl rfl (Res.idxA0 rfl rfl rfl Try.underlying54 sz5 (Int.toNat_natCast _) (by have := Aes.mix_lt hlt hlk; omega)) ?_)
      refine WL.step rfl (Stp.res rfl rfl (Res.load1 rfl rfl Try.underlying5 rfl (hS.ocell (i := 0) rfl (bs_get (by have := Aes.mix_lt hlt hlk; omega)))) ?_)
      refine WL.step rfl (Stp.res rfl rfl (Res.move rfl rfl) ?_)
      refine WL.step rfl (Stp.callA (args := [_, _]) rfl rfl rfl cal9 rfl rfl (times_ok _ _ _) ?_)
      refine WL.step rfl (Stp.res rfl rfl (Res.xorB _ rfl rfl rfl) ?_)
      refine WL.step rfl (Stp.res rfl rfl (Res.assign rfl rfl) ?_)
      refine WL.nil (Blk_n (Thn_n ?_))
      refine CW.region ?_
      refine WL.step rfl (Stp.res rfl rfl (Res.add rfl rfl rfl (by omega)) ?_)
      refine WL.step rfl (Stp.res rfl rfl (Res.move rfl rfl) ?_)
      refine WL.nil (Thn_n ?_)
      exact ⟨k + 1, ⟨rfl, rfl, rfl, rfl, rfl, rfl, rfl, rfl, trivial⟩, ⟨by omega, hS⟩, by omega⟩
    · obtain rfl : k = 4 := by omega
      refine CW.exit (Thn_x (Thn_x (Blk_x (Thn_n ?_))))
      refine CW.region ?_
      refine WL.step rfl (Stp.res rfl rfl (Res.move rfl rfl) ?_)
      refine WL.step rfl (Stp.res rfl rfl (Res.move rfl rfl) ?_)
      refine WL.step rfl (Stp.res rfl rfl (Res.move rfl rfl) ?_)
      refine WL.step rfl (Stp.res rfl rfl (Res.nilCheck rfl rfl) ?_)
      first | refine WL.step rfl (Stp.res rfl rfl (Res.idxA0 rfl rfl rfl Try.underlying54 sz5 (by first | exact Int.toNat_natCast _ | rfl) (by omega)) ?_) | refine WL.step rfl (Stp.res rfl rfl (Res.idxA1 rfl rfl rfl Try.underlying54 sz5 (by first | exact Int.toNat_natCast _ | rfl) (by omega)) ?_)
      first | refine WL.step rfl (Stp.storeB 0 rfl rfl rfl sz5 rfl hS rfl (by first | omega | (simp; omega)) ?_) | refine WL.step rfl (Stp.storeB 1 rfl rfl rfl sz5 rfl hS rfl (by first | omega | (simp; omega)) ?_) | refine WL.step rfl (Stp.storeB 2 rfl rfl rfl sz5 rfl hS rfl (by first | omega | (simp; omega)) ?_)
      intro w hS hpt
      refine WL.nil (Blk_n (Thn_n ?_))
      refine CW.region ?_
      refine WL.step rfl (Stp.res rfl rfl (Res.add rfl rfl rfl (by omega)) ?_)
      refine WL.step rfl (Stp.res rfl rfl (Res.move rfl rfl) ?_)
      refine WL.nil (Thn_n ?_)
      refine ⟨i + 1, ⟨rfl, rfl, rfl, rfl, trivial⟩, ⟨by omega, ?_⟩, by omega⟩
      rw [← Aes.upTo_set]
      exact hS
  · obtain rfl : i = 16 := by omega
    refine CW.exit (Thn_x (Thn_x (Blk_x ?_)))
    rw [Aes.upTo_all _ _ 16 hl] at hS
    exact fq_none rfl ⟨M, _, (hS.drop (i := 0) rfl hb4).drop (i := 0) rfl hb3, PH.le.refl _, Fresh.refl _ _, rfl, rfl, rfl⟩

theorem back_ok (x : UInt8) (w0 : World) (M : PH) (hM : On M w0)  : Ok Try.prog 31 #[byte x] w0 M (fun M' v => M = M' ∧ v = byte (Aes.back x)) := by
  have hS := hM.st
  refine enterB (l := [byte x]) 16 Try.func31 rfl Try.ntmps31 rfl ?_
  refine CW.seq ?_
  refine CW.region ?_
  refine WL.step rfl (Stp.res rfl rfl (Res.assign (v := byte 0) rfl rfl) ?_)
  refine WL.nil (Thn_n ?_)
  refine CW.seq ?_
  refine CW.seq ?_
  refine CW.region ?_
  refine WL.step rfl (Stp.callB (args := []) rfl rfl rfl cal23 rfl rfl hS (box_ok _ _ hS.on) ?_)
  rintro _ w _ hS _ _ hkp ⟨rfl, rfl⟩
  refine WL.step rfl (Stp.res rfl rfl (Res.move rfl rfl) ?_)
  refine WL.nil (Thn_n ?_)
  refine CW.block ?_
  refine CW.loop (σ := Nat) (fun i => [(0, byte x), (5, .agg (bs Aes.boxL)), (6, .int .i64 i)])
    (fun i w' => i ≤ 256 ∧ St w0 w' M [] ∧ ∀ j, j < i → ¬ x = Aes.boxL.getD j 0) (fun i => 256 - i) 0 ⟨rfl, rfl, rfl, trivial⟩ ⟨by omega, hS, fun j hj => by omega⟩ ?_
  rintro i w1 ⟨hi, hS, hx⟩
  refine CW.seq ?_
  refine CW.region ?_
  refine WL.step rfl (Stp.res rfl rfl (Res.lss rfl rfl rfl) ?_)
  refine WL.nil (Thn_n ?_)
  refine CW.seq ?_
  refine CW.ite rfl (fun h => ?_) (fun h => ?_)
  · obtain hlt : i < 256 := by omega
    refine CW.skip (Thn_n ?_)
    refine CW.seq ?_
    refine CW.block ?_
    refine CW.seq ?_
    refine CW.region ?_
    refine WL.step rfl (Stp.res rfl rfl (Res.move rfl rfl) ?_)
    refine WL.step rfl (Stp.res rfl rfl (Res.index1 (v := byte (Aes.boxL.getD i 0)) rfl rfl rfl Try.underlying41 sz5 Try.underlying5 rfl (Int.toNat_natCast i) (by omega) (bs_get (by rw [Aes.boxL_len]; omega))) ?_)
    refine WL.step rfl (Stp.res rfl rfl (Res.assign rfl rfl) ?_)
    refine WL.step rfl (Stp.res rfl rfl (Res.assign rfl rfl) ?_)
    refine WL.nil (Thn_n ?_)
    refine CW.seq ?_
    refine CW.region ?_
    refine WL.step rfl (Stp.res rfl rfl (Res.move rfl rfl) ?_)
    refine WL.step rfl (Stp.res rfl rfl (Res.move rfl rfl) ?_)
    refine WL.step rfl (Stp.res rfl rfl (Res.eqlB _ rfl rfl rfl) ?_)
    refine WL.nil (Thn_n ?_)
    refine CW.ite rfl (fun h2 => ?_) (fun h2 => ?_)
    · refine CW.seq ?_
      refine CW.region ?_
      refine WL.step rfl (Stp.res rfl rfl (Res.move rfl rfl) ?_)
      refine WL.step rfl (Stp.res rfl rfl (Res.convB rfl rfl Try.underlying3 Try.underlying5) ?_)
      refine WL.step rfl (Stp.res rfl rfl (Res.assign rfl rfl) ?_)
      refine WL.nil (Thn_n ?_)
      refine CW.ret (Blk_r (Thn_r (Thn_r (Blk_r (Thn_r ?_)))))
      exact fq_tmp rfl rfl ⟨M, hS, PH.le.refl _, Fresh.refl _ _, rfl, by rw [Aes.back_at hx hlt h2]⟩
    · refine CW.skip (Blk_n (Thn_n ?_))
      refine CW.region ?_
      refine WL.step rfl (Stp.res rfl rfl (Res.add rfl rfl rfl (by omega)) ?_)
      refine WL.step rfl (Stp.res rfl rfl (Res.move rfl rfl) ?_)
      refine WL.nil (Thn_n ?_)
      refine ⟨i + 1, ⟨rfl, rfl, rfl, trivial⟩, ⟨by omega, hS, fun j hj => ?_⟩, by omega⟩
      by_cases e : j = i
      · rw [e]; exact h2
      · exact hx j (by omega)
  · obtain rfl : i = 256 := by omega
    refine CW.exit (Thn_x (Thn_x (Blk_x (Thn_n ?_))))
    refine CW.seq ?_
    refine CW.region ?_
    refine WL.step rfl (Stp.res rfl rfl (Res.assign (v := byte 0) rfl rfl) ?_)
    refine WL.nil (Thn_n ?_)
    refine CW.ret ?_
    exact fq_tmp rfl rfl ⟨M, hS, PH.le.refl _, Fresh.refl _ _, rfl, by rw [Aes.back_none hx]⟩
end Go.Proofs.Ytanogodfnfkkbaa
