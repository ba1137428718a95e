/- Own text of this seat (R3): lemmas on the way to the statement; no condition of its own. -/
import Derived.Test.YtanogodfnfkkbaaR2
set_option linter.unusedVariables false
namespace Go.Proofs.Ytanogodfnfkkbaa
open Go Go.E
theorem rxor_ok (v : Value) (l k : List UInt8) (w0 : World) (M : PH) (hM : On M w0) (hv : Bs M v l) (hl : l.length = 16) (hk : k.length = 16) : Ok Try.prog 29 #[v, .agg (bs k)] w0 M (fun M' r => Bs M' r (Aes.xorB l k)) := by
  have hS := hM.st
  obtain ⟨vb, vo, vc, rfl, vc1, vc2, vcell⟩ := hv.at (by omega)
  refine enterB (l := [.slice (some ⟨vb, vo, none⟩) l.length vc, .agg (bs k)]) 24 Try.func29 rfl Try.ntmps29 rfl ?_
  refine CW.seq ?_
  refine CW.region ?_
  refine WL.step rfl (Stp.boxA rfl rfl rfl rfl hS ?_)
  intro b3 w hb3 hS hkp hnw
  refine WL.step rfl (Stp.res rfl rfl (Res.assign rfl rfl) ?_)
  refine WL.nil (Thn_n ?_)
  refine CW.seq ?_
  refine CW.region ?_
  refine WL.step rfl (Stp.makeB (k := 16) (c := 16) rfl rfl rfl et26 ⟨Nat.le_refl 16, by decide⟩ rfl rfl hS ?_)
  intro b7 w hb7 hS hkp hnw
  refine WL.step rfl (Stp.res rfl rfl (Res.assign rfl rfl) ?_)
  refine WL.nil (Thn_n ?_)
  refine CW.seq ?_
  refine CW.seq ?_
  refine CW.region ?_
  refine WL.step rfl (Stp.res rfl rfl (Res.assign rfl rfl) ?_)
  refine WL.nil (Thn_n ?_)
  refine CW.block ?_
  refine CW.loop (σ := Nat) (fun i => [(0, .slice (some ⟨vb, vo, none⟩) l.length vc), (3, .pointer (some ⟨b3, 0, none⟩)), (5, .slice (some ⟨b7, 0, none⟩) 16 16), (6, .int .i64 (i : Int))])
    (fun i w' => i ≤ 16 ∧ St w0 w' M [(b7, .cells (bs (Aes.upTo i (fun j => l.getD j 0 ^^^ k.getD j 0) (List.replicate 16 0))) 5 (0, 0)), (b3, .cells (bs k) 29 (0, 0))]) (fun i => 16 - i) 0 ⟨rfl, rfl, rfl, rfl, trivial⟩ ⟨by omega, by rw [Aes.upTo_zero]; exact hS⟩ ?_
  rintro i w1 ⟨hi, hS⟩
  refine CW.seq ?_
  refine CW.seq ?_
  refine CW.region ?_
  refine WL.step rfl (Stp.res rfl rfl (Res.move rfl rfl) ?_)
  refine WL.step rfl (Stp.res rfl rfl (Res.lss rfl rfl rfl) ?_)
  refine WL.nil (Thn_n ?_)
  refine CW.ite rfl (fun h => ?_) (fun h => ?_)
  · obtain hlt : i < 16 := by omega
    refine CW.skip (Thn_n ?_)
    refine CW.seq ?_
    refine CW.block ?_
    have hS := hS.drew
    refine CW.tail 11 mixed (by kernel_rfl) ?_
    refine SL.step rfl rfl rfl (Res.move rfl rfl) ?_
    refine SL.step rfl rfl rfl (Res.move rfl rfl) ?_
    refine SL.step rfl rfl rfl (Res.move rfl rfl) ?_
    refine SL.step rfl rfl rfl (Res.move rfl rfl) ?_
    first | refine SL.step rfl rfl rfl (Res.idxS0 rfl rfl rfl Try.underlying26 sz5 (by first | exact Int.toNat_natCast _ | rfl) (by omega)) ?_ | refine SL.step rfl rfl rfl (Res.idxS1 rfl rfl rfl Try.underlying26 sz5 (by first | exact Int.toNat_natCast _ | rfl) (by omega)) ?_
    refine SL.step rfl rfl rfl (Res.load1 rfl rfl Try.underlying5 rfl (by first | exact hS.ocell (i := 0) rfl (bs_get (by first | omega | (simp; done) | (simp; omega))) | exact hS.ocell (i := 1) rfl (bs_get (by first | omega | (simp; done) | (simp; omega))) | exact hS.ocell (i := 2) rfl (bs_get (by first | omega | (simp; done) | (simp; omega))) | exact hS.cell (vcell _ (by omega)))) ?_
    refine SL.step rfl rfl rfl (Res.move rfl rfl) ?_
    first | refine SL.step rfl rfl rfl (Res.idxA0 rfl rfl rfl Try.underlying29 sz5 (by first | exact Int.toNat_natCast _ | rfl) (by omega)) ?_ | refine SL.step rfl rfl rfl (Res.idxA1 rfl rfl rfl Try.underlying29 sz5 (by first | exact Int.toNat_natCast _ | rfl) (by omega)) ?_
    refine SL.step rfl rfl rfl (Res.load1 rfl rfl Try.underlying5 rfl (by first | exact hS.ocell (i := 0) rfl (bs_get (by first | omega | (simp; done) | (simp; omega))) | exact hS.ocell (i := 1) rfl (bs_get (by first | omega | (simp; done) | (simp; omega))) | exact hS.ocell (i := 2) rfl (bs_get (by first | omega | (simp; done) | (simp; omega))) | exact hS.cell (vcell _ (by omega)))) ?_
    refine SL.step rfl rfl rfl (Res.xorB _ rfl rfl rfl) ?_
    first | refine SL.step rfl rfl rfl (Res.idxS0 rfl rfl rfl Try.underlying26 sz5 (by first | exact Int.toNat_natCast _ | rfl) (by omega)) ?_ | refine SL.step rfl rfl rfl (Res.idxS1 rfl rfl rfl Try.underlying26 sz5 (by first | exact Int.toNat_natCast _ | rfl) (by omega)) ?_
    refine SL.nil ?_
    first | refine WL.step rfl (Stp.storeB 0 rfl rfl rfl sz5 rfl hS rfl (by first | omega | (simp; done) | (simp; omega)) ?_) | refine WL.step rfl (Stp.storeB 1 rfl rfl rfl sz5 rfl hS rfl (by first | omega | (simp; done) | (simp; omega)) ?_) | refine WL.step rfl (Stp.storeB 2 rfl rfl rfl sz5 rfl hS rfl (by first | omega | (simp; done) | (simp; omega)) ?_)
    intro w hS hpt
    refine WL.nil (Blk_n (Thn_n ?_))
    refine CW.region ?_
    refine WL.step rfl (Stp.res rfl rfl (Res.move rfl rfl) ?_)
    refine WL.step rfl (Stp.res rfl rfl (Res.add rfl rfl rfl (by omega)) ?_)
    refine WL.step rfl (Stp.res rfl rfl (Res.assign rfl rfl) ?_)
    refine WL.nil (Thn_n ?_)
    refine ⟨i + 1, ⟨rfl, rfl, rfl, rfl, trivial⟩, ⟨by omega, ?_⟩, by omega⟩
    rw [← Aes.upTo_set]
    exact hS
  · obtain rfl : i = 16 := by omega
    refine CW.exit (Thn_x (Thn_x (Blk_x (Thn_n ?_))))
    refine CW.seq ?_
    refine CW.region ?_
    refine WL.step rfl (Stp.res rfl rfl (Res.move rfl rfl) ?_)
    refine WL.step rfl (Stp.res rfl rfl (Res.assign rfl rfl) ?_)
    refine WL.nil (Thn_n ?_)
    refine CW.ret ?_
    rw [Aes.upTo_all _ _ 16 (List.length_replicate ..)] at hS
    have hF := hS.freeze (i := 0) rfl hb7
    exact fq_tmp rfl rfl ⟨_, hF.1.drop (i := 0) rfl hb3, hF.2, Fresh.add _ hb7, Bs.of' (PH.add_self _ _ _) (Aes.xorB_length l k) (by omega)⟩

theorem rmix_ok (v : Value) (l m : List UInt8) (w0 : World) (M : PH) (hM : On M w0) (hv : Bs M v l) (hl : l.length = 16) (hm : m.length = 4) : Ok Try.prog 30 #[v, .agg (bs m)] w0 M (fun M' r => Bs M' r (Aes.mixB l m)) := by
  have hS := hM.st
  obtain ⟨vb, vo, vc, rfl, vc1, vc2, vcell⟩ := hv.at (by omega)
  refine enterB (l := [.slice (some ⟨vb, vo, none⟩) l.length vc, .agg (bs m)]) 41 Try.func30 rfl Try.ntmps30 rfl ?_
  refine CW.seq ?_
  refine CW.region ?_
  refine WL.step rfl (Stp.boxA rfl rfl rfl rfl hS ?_)
  intro b3 w hb3 hS hkp hnw
  refine WL.step rfl (Stp.res rfl rfl (Res.assign rfl rfl) ?_)
  refine WL.nil (Thn_n ?_)
  refine CW.seq ?_
  refine CW.region ?_
  refine WL.step rfl (Stp.makeB (k := 16) (c := 16) rfl rfl rfl et26 ⟨Nat.le_refl 16, by decide⟩ rfl rfl hS ?_)
  intro b8 w hb8 hS hkp hnw
  refine WL.step rfl (Stp.res rfl rfl (Res.assign rfl rfl) ?_)
  refine WL.nil (Thn_n ?_)
  refine CW.seq ?_
  refine CW.seq ?_
  refine CW.region ?_
  refine WL.step rfl (Stp.res rfl rfl (Res.assign rfl rfl) ?_)
  refine WL.nil (Thn_n ?_)
  refine CW.block ?_
  refine CW.loop (σ := Nat) (fun i => [(0, .slice (some ⟨vb, vo, none⟩) l.length vc), (3, .pointer (some ⟨b3, 0, none⟩)), (5, .slice (some ⟨b8, 0, none⟩) 16 16), (6, .int .i64 (i : Int))])
    (fun i w' => i ≤ 16 ∧ St w0 w' M [(b8, .cells (bs (Aes.upTo i (fun i => Aes.mixAcc l m i 4) (List.replicate 16 0))) 5 (0, 0)), (b3, .cells (bs m) 49 (0, 0))]) (fun i => 16 - i) 0 ⟨rfl, rfl, rfl, rfl, trivial⟩ ⟨by omega, by rw [Aes.upTo_zero]; exact hS⟩ ?_
  rintro i w1 ⟨hi, hS⟩
  refine CW.seq ?_
  refine CW.seq ?_
  refine CW.region ?_
  refine WL.step rfl (Stp.res rfl rfl (Res.move rfl rfl) ?_)
  refine WL.step rfl (Stp.res rfl rfl (Res.lss rfl rfl rfl) ?_)
  refine WL.nil (Thn_n ?_)
  refine CW.ite rfl (fun h => ?_) (fun h => ?_)
  · obtain hlt : i < 16 := by omega
    refine CW.skip (Thn_n ?_)
    refine CW.seq ?_
    refine CW.block ?_
    refine CW.seq ?_
    refine CW.region ?_
    refine WL.step rfl (Stp.res rfl rfl (Res.assign rfl rfl) ?_)
    refine WL.nil (Thn_n ?_)
    refine CW.block ?_
    refine CW.loop (σ := Nat) (fun k => [(0, .slice (some ⟨vb, vo, none⟩) l.length vc), (3, .pointer (some ⟨b3, 0, none⟩)), (5, .slice (some ⟨b8, 0, none⟩) 16 16), (6, .int .i64 (i : Int)), (7, .int .i64 (k : Int))])
      (fun k w' => k ≤ 4 ∧ St w0 w' M [(b8, .cells (bs ((Aes.upTo i (fun i => Aes.mixAcc l m i 4) (List.replicate 16 0)).set i (Aes.mixAcc l m i k))) 5 (0, 0)), (b3, .cells (bs m) 49 (0, 0))]) (fun k => 4 - k) 0 ⟨rfl, rfl, rfl, rfl, rfl, trivial⟩ ⟨by omega, by rw [Aes.mixAcc, Aes.upTo_set0]; exact hS⟩ ?_
    rintro k w2 ⟨hk, hS⟩
    refine CW.seq ?_
    refine CW.seq ?_
    refine CW.region ?_
    refine WL.step rfl (Stp.res rfl rfl (Res.move rfl rfl) ?_)
    refine WL.step rfl (Stp.res rfl rfl (Res.lss rfl rfl rfl) ?_)
    refine WL.nil (Thn_n ?_)
    refine CW.ite rfl (fun h2 => ?_) (fun h2 => ?_)
    · obtain hlk : k < 4 := by omega
      refine CW.skip (Thn_n ?_)
      refine CW.seq ?_
      refine CW.block ?_
      have hS := hS.drew
      have hK0 := hS
      refine CW.last (fun w' => St w0 w' M [(b8, .cells (bs ((Aes.upTo i (fun i => Aes.mixAcc l m i 4) (List.replicate 16 0)).set i (Aes.mixAcc l m i k))) 5 (0, 0)), (b3, .cells (bs m) 49 (0, 0))]) [23] mixed ?_
      refine ZL.take 0 rfl (by kernel_rfl) rfl rfl rfl hK0 (fun w hK => Res.move rfl rfl) ?_
      refine ZL.take 1 rfl (by kernel_rfl) rfl rfl rfl hK0 (fun w hK => Res.move rfl rfl) ?_
      refine ZL.take 2 rfl (by kernel_rfl) rfl rfl rfl hK0 (fun w hK => Res.move rfl rfl) ?_
      refine ZL.take 3 rfl (by kernel_rfl) rfl rfl rfl hK0 (fun w hK => Res.move rfl rfl) ?_
      refine ZL.take 4 rfl (by kernel_rfl) rfl rfl rfl hK0 (fun w hK => Res.idxS0 (k := i) rfl rfl rfl Try.underlying26 sz5 (Int.toNat_natCast _) (by omega)) ?_
      refine ZL.take 5 rfl (by kernel_rfl) rfl rfl rfl hK0 (fun w hK => Res.load1 (v := byte (Aes.mixAcc l m i k)) rfl rfl Try.underlying5 rfl (hK.ocell (i := 0) rfl (by rw [bs_get (by simp; omega), Aes.set_get _ _ _ (by simp; omega)]))) ?_
      refine ZL.take 6 rfl (by kernel_rfl) rfl rfl rfl hK0 (fun w hK => Res.move rfl rfl) ?_
      refine ZL.take 7 rfl (by kernel_rfl) rfl rfl rfl hK0 (fun w hK => Res.move rfl rfl) ?_
      refine ZL.take 8 rfl (by kernel_rfl) rfl rfl rfl hK0 (fun w hK => Res.quo rfl rfl rfl (by omega)) ?_
      refine ZL.take 9 rfl (by kernel_rfl) rfl rfl rfl hK0 (fun w hK => Res.mul rfl rfl rfl (by omega)) ?_
      refine ZL.take 10 rfl (by kernel_rfl) rfl rfl rfl hK0 (fun w hK => Res.move rfl rfl) ?_
      refine ZL.take 11 rfl (by kernel_rfl) rfl rfl rfl hK0 (fun w hK => Res.move rfl rfl) ?_
      refine ZL.take 12 rfl (by kernel_rfl) rfl rfl rfl hK0 (fun w hK => Res.add rfl rfl rfl (by omega)) ?_
      refine ZL.take 13 rfl (by kernel_rfl) rfl rfl rfl hK0 (fun w hK => Res.rem rfl rfl rfl (by omega)) ?_
      refine ZL.take 14 rfl (by kernel_rfl) rfl rfl rfl hK0 (fun w hK => Res.add rfl rfl rfl (by omega)) ?_
      refine ZL.take 15 rfl (by kernel_rfl) rfl rfl rfl hK0 (fun w hK => Res.idxS1 (k := i / 4 * 4 + (i + k) % 4) rfl rfl rfl Try.underlying26 sz5 (by omega) (by omega)) ?_
      refine ZL.take 16 rfl (by kernel_rfl) rfl rfl rfl hK0 (fun w hK => Res.load1 rfl rfl Try.underlying5 rfl (hK.cell (vcell _ (by omega)))) ?_
      refine ZL.take 17 rfl (by kernel_rfl) rfl rfl rfl hK0 (fun w hK => Res.move rfl rfl) ?_
      first | refine ZL.take 18 rfl (by kernel_rfl) rfl rfl rfl hK0 (fun w hK => Res.idxA0 rfl rfl rfl Try.underlying49 sz5 (by first | exact Int.toNat_natCast _ | rfl) (by omega)) ?_ | refine ZL.take 18 rfl (by kernel_rfl) rfl rfl rfl hK0 (fun w hK => Res.idxA1 rfl rfl rfl Try.underlying49 sz5 (by first | exact Int.toNat_natCast _ | rfl) (by omega)) ?_
      refine ZL.take 19 rfl (by kernel_rfl) rfl rfl rfl hK0 (fun w hK => Res.load1 rfl rfl Try.underlying5 rfl (hK.ocell (i := 1) rfl (bs_get (by omega)))) ?_
      refine ZL.one 20 rfl (by kernel_rfl) rfl (Stp.callA (args := [_, _]) rfl rfl rfl cal12 rfl rfl (rtimes_ok _ _ _) ?_)
      skip
      refine ⟨hK0, ?_⟩
      refine ZL.take 21 rfl (by kernel_rfl) rfl rfl rfl hK0 (fun w hK => Res.xorB _ rfl rfl rfl) ?_
      refine ZL.take 22 rfl (by kernel_rfl) rfl rfl rfl hK0 (fun w hK => Res.idxS0 (k := i) rfl rfl rfl Try.underlying26 sz5 (Int.toNat_natCast _) (by omega)) ?_
      refine ZL.end 23 (by decide) rfl (by kernel_rfl) rfl (Stp.storeB 0 rfl rfl rfl sz5 rfl hS rfl (by simp; omega) ?_)
      intro w hS hpt
      rw [List.set_set, Aes.mixAcc_step l m hlt hlk] at hS
      refine ZL.done (by kernel_rfl) (Blk_n (Thn_n ?_))
      refine CW.region ?_
      refine WL.step rfl (Stp.res rfl rfl (Res.move rfl rfl) ?_)
      refine WL.step rfl (Stp.res rfl rfl (Res.add rfl rfl rfl (by omega)) ?_)
      refine WL.step rfl (Stp.res rfl rfl (Res.assign rfl rfl) ?_)
      refine WL.nil (Thn_n ?_)
      exact ⟨k + 1, ⟨rfl, rfl, rfl, rfl, rfl, trivial⟩, ⟨by omega, hS⟩, by omega⟩
    · obtain rfl : k = 4 := by omega
      refine CW.exit (Thn_x (Thn_x (Blk_x (Blk_n (Thn_n ?_)))))
      refine CW.region ?_
      refine WL.step rfl (Stp.res rfl rfl (Res.move rfl rfl) ?_)
      refine WL.step rfl (Stp.res rfl rfl (Res.add rfl rfl rfl (by omega)) ?_)
      refine WL.step rfl (Stp.res rfl rfl (Res.assign rfl rfl) ?_)
      refine WL.nil (Thn_n ?_)
      refine ⟨i + 1, ⟨rfl, rfl, rfl, rfl, trivial⟩, ⟨by omega, ?_⟩, by omega⟩
      rw [← Aes.upTo_set]
      exact hS
  · obtain rfl : i = 16 := by omega
    refine CW.exit (Thn_x (Thn_x (Blk_x (Thn_n ?_))))
    refine CW.seq ?_
    refine CW.region ?_
    refine WL.step rfl (Stp.res rfl rfl (Res.move rfl rfl) ?_)
    refine WL.step rfl (Stp.res rfl rfl (Res.assign rfl rfl) ?_)
    refine WL.nil (Thn_n ?_)
    refine CW.ret ?_
    rw [Aes.upTo_all _ _ 16 (List.length_replicate ..)] at hS
    have hF := hS.freeze (i := 0) rfl hb8
    exact fq_tmp rfl rfl ⟨_, hF.1.drop (i := 0) rfl hb3, hF.2, Fresh.add _ hb8, Bs.of' (PH.add_self _ _ _) (Aes.mixB_length l m) (by omega)⟩

theorem rkeysBy_bad (tv kv : Value) (key : List UInt8) (w0 : World) (M : PH) (hM : On M w0) (hkey : Bs M kv key) (hk : key.length ≠ 16) : Ok Try.prog 28 #[tv, kv] w0 M (fun M' r => M = M' ∧ r = .tuple #[.agg (bs (List.replicate 176 0)), .int .i64 2]) := by
  have hS := hM.st
  obtain ⟨ka, kc, rfl, k1, k2, k3, k4⟩ := hkey
  refine enterB (l := [tv, .slice ka key.length kc]) 117 Try.func28 rfl Try.ntmps28 rfl ?_
  refine CW.seq ?_
  refine CW.region ?_
  refine WL.step rfl (Stp.alloc (cs := bs (List.replicate 176 0)) rfl z36 rfl rfl rfl hS ?_)
  intro b4 w hb4 hS hkp hnw
  refine WL.step rfl (Stp.res rfl rfl (Res.assign rfl rfl) ?_)
  refine WL.nil (Thn_n ?_)
  refine CW.seq ?_
  refine CW.region ?_
  refine WL.step rfl (Stp.res rfl rfl (Res.build (vals := []) (cs := bs (List.replicate 176 0)) rfl rfl (fun _ => by kernel_rfl)) ?_)
  refine WL.step rfl (Stp.alloc (cs := bs (List.replicate 176 0)) rfl z36 rfl rfl rfl hS ?_)
  intro b6 w hb6 hS hkp hnw
  refine WL.step rfl (Stp.storeAllB 0 rfl rfl rfl sz36 rfl hS rfl ⟨List.length_replicate .., List.length_replicate ..⟩ ?_)
  intro w hS hpt
  refine WL.nil (Thn_n ?_)
  refine CW.seq ?_
  refine CW.seq ?_
  refine CW.region ?_
  refine WL.step rfl (Stp.res rfl rfl (Res.move rfl rfl) ?_)
  refine WL.step rfl (Stp.res rfl rfl (Res.len rfl rfl rfl rfl Try.underlying26) ?_)
  refine WL.step rfl (Stp.res rfl rfl (Res.neq rfl rfl rfl) ?_)
  refine WL.nil (Thn_n ?_)
  refine CW.iteT rfl (by omega) ?_
  refine CW.seq ?_
  refine CW.region ?_
  refine WL.step rfl (Stp.res rfl rfl (Res.loadAll rfl rfl Try.underlying36 rfl (by rw [size_bs, List.length_replicate]; exact sz36) (hS.get (i := 0) rfl)) ?_)
  refine WL.step rfl (Stp.storeAllB 1 rfl rfl rfl sz36 rfl hS rfl ⟨List.length_replicate .., List.length_replicate ..⟩ ?_)
  intro w hS hpt
  refine WL.step rfl (Stp.res rfl rfl (Res.assign rfl rfl) ?_)
  refine WL.nil (Thn_n ?_)
  refine CW.ret (Thn_r ?_)
  exact fq_cell_tmp rfl rfl rfl (hS.get (i := 1) rfl) Try.underlying36 rfl (by rw [size_bs, List.length_replicate]; exact sz36) ⟨M, (hS.drop (i := 0) rfl hb6).drop (i := 0) rfl hb4, PH.le.refl _, Fresh.refl _ _, rfl, rfl⟩

theorem rkeysBy_ok (tv kv : Value) (key : List UInt8) (w0 : World) (M : PH) (hM : On M w0) (ht : Bs M tv Aes.boxL) (hkey : Bs M kv key) (hk : key.length = 16) : Ok Try.prog 28 #[tv, kv] w0 M (fun M' r => M = M' ∧ r = .tuple #[.agg (bs (Aes.keysL key)), .int .i64 0]) := by
  have hS := hM.st
  obtain ⟨tb, to_, tc, rfl, tc1, tc2, tcell⟩ := ht.at (by rw [Aes.boxL_len]; omega)
  have hkey0 := hkey
  obtain ⟨ka, kc, rfl, k1, k2, k3, k4⟩ := hkey
  refine enterB (l := [.slice (some ⟨tb, to_, none⟩) Aes.boxL.length tc, .slice ka key.length kc]) 117 Try.func28 rfl Try.ntmps28 rfl ?_
  refine CW.seq ?_
  refine CW.region ?_
  refine WL.step rfl (Stp.alloc (cs := bs (List.replicate 176 0)) rfl z36 rfl rfl rfl hS ?_)
  intro b4 w hb4 hS hkp hnw
  refine WL.step rfl (Stp.res rfl rfl (Res.assign rfl rfl) ?_)
  refine WL.nil (Thn_n ?_)
  refine CW.seq ?_
  refine CW.region ?_
  refine WL.step rfl (Stp.res rfl rfl (Res.build (vals := []) (cs := bs (List.replicate 176 0)) rfl rfl (fun _ => by kernel_rfl)) ?_)
  refine WL.step rfl (Stp.alloc (cs := bs (List.replicate 176 0)) rfl z36 rfl rfl rfl hS ?_)
  intro b6 w hb6 hS hkp hnw
  refine WL.step rfl (Stp.storeAllB 0 rfl rfl rfl sz36 rfl hS rfl ⟨List.length_replicate .., List.length_replicate ..⟩ ?_)
  intro w hS hpt
  refine WL.nil (Thn_n ?_)
  refine CW.seq ?_
  refine CW.seq ?_
  refine CW.region ?_
  refine WL.step rfl (Stp.res rfl rfl (Res.move rfl rfl) ?_)
  refine WL.step rfl (Stp.res rfl rfl (Res.len rfl rfl rfl rfl Try.underlying26) ?_)
  refine WL.step rfl (Stp.res rfl rfl (Res.neq rfl rfl rfl) ?_)
  refine WL.nil (Thn_n ?_)
  refine CW.iteF rfl (by omega) ?_
  refine CW.skip (Thn_n ?_)
  refine CW.seq ?_
  refine CW.region ?_
  refine WL.step rfl (Stp.lit (vals := []) (cs := bs []) (e := 5) rfl rfl (fun _ => by kernel_rfl) rfl rfl hS ?_)
  intro b18 w hb18 hS hkp hnw
  refine WL.step rfl (Stp.res rfl rfl (Res.move rfl rfl) ?_)
  refine WL.step rfl (Stp.appendB (l := []) (r := key) rfl rfl rfl rfl et26 (Src.ofBs Try.underlying26 hS hkey0) hS (OwnB.of hb18 (Nat.le_refl 0) (by omega) [] rfl rfl) (by rw [hk]; decide) rfl rfl ?_)
  intro v' w g' hS hown
  rw [List.nil_append, ← Aes.kl_16 hk] at hown
  refine WL.step rfl (Stp.res rfl rfl (Res.assign rfl rfl) ?_)
  refine WL.nil (Thn_n ?_)
  refine CW.seq ?_
  refine CW.region ?_
  refine WL.step rfl (Stp.res rfl rfl (Res.assign (v := byte 1) rfl rfl) ?_)
  refine WL.nil (Thn_n ?_)
  refine CW.seq ?_
  refine CW.seq ?_
  refine CW.region ?_
  refine WL.step rfl (Stp.res rfl rfl (Res.assign rfl rfl) ?_)
  refine WL.nil (Thn_n ?_)
  refine CW.block ?_
  refine CW.loop (σ := Nat × Value × Owned) (fun s => [(0, .slice (some ⟨tb, to_, none⟩) Aes.boxL.length tc), (4, .pointer (some ⟨b4, 0, none⟩)), (5, .int .i64 0), (6, .pointer (some ⟨b6, 0, none⟩)), (7, s.2.1), (8, byte (Aes.pow ((s.1 - 1) / 4))), (9, .int .i64 (s.1 : Int))])
    (fun s w' => 4 ≤ s.1 ∧ s.1 ≤ 44 ∧ St w0 w' M (s.2.2 ++ [(b6, .cells (bs (List.replicate 176 0)) 36 (0, 0)), (b4, .cells (bs (List.replicate 176 0)) 36 (0, 0))]) ∧ OwnB w0.heap.size s.2.2 s.2.1 (Aes.kl key (4 * s.1)) 5) (fun s => 44 - s.1) (4, _, g') ⟨rfl, rfl, rfl, rfl, rfl, bytec (show (1 : UInt8) = Aes.pow ((4 - 1) / 4) by decide), rfl, trivial⟩ ⟨by dsimp only; omega, by dsimp only; omega, hS, hown⟩ ?_
  rintro ⟨i, v, g⟩ w1 ⟨hi4, hi, hS, hown⟩
  dsimp only at hi4 hi hS hown ⊢
  refine CW.seq ?_
  refine CW.seq ?_
  refine CW.region ?_
  refine WL.step rfl (Stp.res rfl rfl (Res.move rfl rfl) ?_)
  refine WL.step rfl (Stp.res rfl rfl (Res.lss rfl rfl rfl) ?_)
  refine WL.nil (Thn_n ?_)
  refine CW.ite rfl (fun h => ?_) (fun h => ?_)
  · have hlt : i < 44 := by omega
    refine CW.skip (Thn_n ?_)
    refine CW.seq ?_
    refine CW.block ?_
    refine CW.seq ?_
    have hown0 := hown
    obtain ⟨bw, cw, capw, hbw, rfl, rfl, hcw⟩ := hown.open (by rw [Aes.kl_len]; omega)
    have hS := hS.drew
    refine CW.tail 24 mixed (by kernel_rfl) ?_
    refine SL.step rfl rfl rfl (Res.move rfl rfl) ?_
    refine SL.step rfl rfl rfl (Res.move rfl rfl) ?_
    refine SL.step rfl rfl rfl (Res.mul rfl rfl rfl (by omega)) ?_
    refine SL.step rfl rfl rfl (Res.sub rfl rfl rfl (by omega)) ?_
    refine SL.step rfl rfl rfl (Res.idxS0 (k := 4 * i - 4) rfl rfl rfl Try.underlying26 sz5 (by omega) (by rw [Aes.kl_len]; omega)) ?_
    refine SL.step rfl rfl rfl (Res.load1 (v := byte (Aes.kf key (4 * i - 4))) rfl rfl Try.underlying5 rfl (hS.ocell (i := 0) rfl (by rw [hcw _ (by rw [Aes.kl_len]; omega), Aes.kl_at _ (by omega)]))) ?_
    refine SL.step rfl rfl rfl (Res.move rfl rfl) ?_
    refine SL.step rfl rfl rfl (Res.move rfl rfl) ?_
    refine SL.step rfl rfl rfl (Res.mul rfl rfl rfl (by omega)) ?_
    refine SL.step rfl rfl rfl (Res.sub rfl rfl rfl (by omega)) ?_
    refine SL.step rfl rfl rfl (Res.idxS0 (k := 4 * i - 3) rfl rfl rfl Try.underlying26 sz5 (by omega) (by rw [Aes.kl_len]; omega)) ?_
    refine SL.step rfl rfl rfl (Res.load1 (v := byte (Aes.kf key (4 * i - 3))) rfl rfl Try.underlying5 rfl (hS.ocell (i := 0) rfl (by rw [hcw _ (by rw [Aes.kl_len]; omega), Aes.kl_at _ (by omega)]))) ?_
    refine SL.step rfl rfl rfl (Res.move rfl rfl) ?_
    refine SL.step rfl rfl rfl (Res.move rfl rfl) ?_
    refine SL.step rfl rfl rfl (Res.mul rfl rfl rfl (by omega)) ?_
    refine SL.step rfl rfl rfl (Res.sub rfl rfl rfl (by omega)) ?_
    refine SL.step rfl rfl rfl (Res.idxS0 (k := 4 * i - 2) rfl rfl rfl Try.underlying26 sz5 (by omega) (by rw [Aes.kl_len]; omega)) ?_
    refine SL.step rfl rfl rfl (Res.load1 (v := byte (Aes.kf key (4 * i - 2))) rfl rfl Try.underlying5 rfl (hS.ocell (i := 0) rfl (by rw [hcw _ (by rw [Aes.kl_len]; omega), Aes.kl_at _ (by omega)]))) ?_
    refine SL.step rfl rfl rfl (Res.move rfl rfl) ?_
    refine SL.step rfl rfl rfl (Res.move rfl rfl) ?_
    refine SL.step rfl rfl rfl (Res.mul rfl rfl rfl (by omega)) ?_
    refine SL.step rfl rfl rfl (Res.sub rfl rfl rfl (by omega)) ?_
    refine SL.step rfl rfl rfl (Res.idxS0 (k := 4 * i - 1) rfl rfl rfl Try.underlying26 sz5 (by omega) (by rw [Aes.kl_len]; omega)) ?_
    refine SL.step rfl rfl rfl (Res.load1 (v := byte (Aes.kf key (4 * i - 1))) rfl rfl Try.underlying5 rfl (hS.ocell (i := 0) rfl (by rw [hcw _ (by rw [Aes.kl_len]; omega), Aes.kl_at _ (by omega)]))) ?_
    refine SL.nil ?_
    refine WL.step rfl (Stp.lit (vals := [(0, byte (Aes.kf key (4 * i - 4))), (1, byte (Aes.kf key (4 * i - 3))), (2, byte (Aes.kf key (4 * i - 2))), (3, byte (Aes.kf key (4 * i - 1)))]) (cs := bs [Aes.kf key (4 * i - 4), Aes.kf key (4 * i - 3), Aes.kf key (4 * i - 2), Aes.kf key (4 * i - 1)]) (e := 5) rfl rfl (fun _ => by kernel_rfl) rfl rfl hS ?_)
    intro bx w hbx hS hkp hnw
    have hF := hS.freeze (i := 0) rfl hbx
    obtain ⟨M1, hle1, hM1, hS⟩ : ∃ M1, PH.le M M1 ∧ (∀ j, j < 4 → PH.cell M1 bx j = some (byte (List.getD [Aes.kf key (4 * i - 4), Aes.kf key (4 * i - 3), Aes.kf key (4 * i - 2), Aes.kf key (4 * i - 1)] j 0))) ∧ St w0 w M1 ([(bw, .cells cw 5 (0, 0))] ++ [(b6, .cells (bs (List.replicate 176 0)) 36 (0, 0)), (b4, .cells (bs (List.replicate 176 0)) 36 (0, 0))]) := ⟨_, hF.2, fun j hj => PH.cell_of (PH.add_self _ _ _) (bs_get hj), hF.1⟩
    refine WL.step rfl (Stp.res rfl rfl (Res.assign rfl rfl) ?_)
    refine WL.nil (Thn_n ?_)
    refine CW.seq ?_
    refine CW.seq ?_
    refine CW.region ?_
    refine WL.step rfl (Stp.res rfl rfl (Res.move rfl rfl) ?_)
    refine WL.step rfl (Stp.res rfl rfl (Res.rem rfl rfl rfl (by omega)) ?_)
    refine WL.step rfl (Stp.res rfl rfl (Res.eql rfl rfl rfl) ?_)
    refine WL.nil (Thn_n ?_)
    refine CW.ite rfl (fun h2 => ?_) (fun h2 => ?_)
    · have h4 : i % 4 = 0 := by omega
      refine CW.seq ?_
      have hS := hS.drew
      refine CW.tail 26 mixed (by kernel_rfl) ?_
      refine SL.step rfl rfl rfl (Res.move rfl rfl) ?_
      refine SL.step rfl rfl rfl (Res.move rfl rfl) ?_
      refine SL.step rfl rfl rfl (Res.idxS0 (k := 1) rfl rfl rfl Try.underlying26 sz5 rfl (by decide)) ?_
      refine SL.step rfl rfl rfl (Res.load1 (v := byte (Aes.kf key (4 * i - 3))) rfl rfl Try.underlying5 rfl (hS.cell (hM1 1 (by decide)))) ?_
      refine SL.step rfl rfl rfl (Res.idxS1 (k := UInt8.toNat _) rfl rfl rfl Try.underlying26 sz5 (Int.toNat_natCast _) ⟨Int.natCast_nonneg _, by rw [Aes.boxL_len]; exact Int.ofNat_lt.2 (UInt8.toNat_lt _)⟩) ?_
      refine SL.step rfl rfl rfl (Res.load1 (v := byte (Aes.sub (Aes.kf key (4 * i - 3)))) rfl rfl Try.underlying5 rfl (hS.cell (PH.cell_mono hle1 (tcell _ (by rw [Aes.boxL_len]; exact UInt8.toNat_lt _))))) ?_
      refine SL.step rfl rfl rfl (Res.move rfl rfl) ?_
      refine SL.step rfl rfl rfl (Res.xorB _ rfl rfl rfl) ?_
      refine SL.step rfl rfl rfl (Res.move rfl rfl) ?_
      refine SL.step rfl rfl rfl (Res.move rfl rfl) ?_
      refine SL.step rfl rfl rfl (Res.idxS0 (k := 2) rfl rfl rfl Try.underlying26 sz5 rfl (by decide)) ?_
      refine SL.step rfl rfl rfl (Res.load1 (v := byte (Aes.kf key (4 * i - 2))) rfl rfl Try.underlying5 rfl (hS.cell (hM1 2 (by decide)))) ?_
      refine SL.step rfl rfl rfl (Res.idxS1 (k := UInt8.toNat _) rfl rfl rfl Try.underlying26 sz5 (Int.toNat_natCast _) ⟨Int.natCast_nonneg _, by rw [Aes.boxL_len]; exact Int.ofNat_lt.2 (UInt8.toNat_lt _)⟩) ?_
      refine SL.step rfl rfl rfl (Res.load1 (v := byte (Aes.sub (Aes.kf key (4 * i - 2)))) rfl rfl Try.underlying5 rfl (hS.cell (PH.cell_mono hle1 (tcell _ (by rw [Aes.boxL_len]; exact UInt8.toNat_lt _))))) ?_
      refine SL.step rfl rfl rfl (Res.move rfl rfl) ?_
      refine SL.step rfl rfl rfl (Res.move rfl rfl) ?_
      refine SL.step rfl rfl rfl (Res.idxS0 (k := 3) rfl rfl rfl Try.underlying26 sz5 rfl (by decide)) ?_
      refine SL.step rfl rfl rfl (Res.load1 (v := byte (Aes.kf key (4 * i - 1))) rfl rfl Try.underlying5 rfl (hS.cell (hM1 3 (by decide)))) ?_
      refine SL.step rfl rfl rfl (Res.idxS1 (k := UInt8.toNat _) rfl rfl rfl Try.underlying26 sz5 (Int.toNat_natCast _) ⟨Int.natCast_nonneg _, by rw [Aes.boxL_len]; exact Int.ofNat_lt.2 (UInt8.toNat_lt _)⟩) ?_
      refine SL.step rfl rfl rfl (Res.load1 (v := byte (Aes.sub (Aes.kf key (4 * i - 1)))) rfl rfl Try.underlying5 rfl (hS.cell (PH.cell_mono hle1 (tcell _ (by rw [Aes.boxL_len]; exact UInt8.toNat_lt _))))) ?_
      refine SL.step rfl rfl rfl (Res.move rfl rfl) ?_
      refine SL.step rfl rfl rfl (Res.move rfl rfl) ?_
      refine SL.step rfl rfl rfl (Res.idxS0 (k := 0) rfl rfl rfl Try.underlying26 sz5 rfl (by decide)) ?_
      refine SL.step rfl rfl rfl (Res.load1 (v := byte (Aes.kf key (4 * i - 4))) rfl rfl Try.underlying5 rfl (hS.cell (hM1 0 (by decide)))) ?_
      refine SL.step rfl rfl rfl (Res.idxS1 (k := UInt8.toNat _) rfl rfl rfl Try.underlying26 sz5 (Int.toNat_natCast _) ⟨Int.natCast_nonneg _, by rw [Aes.boxL_len]; exact Int.ofNat_lt.2 (UInt8.toNat_lt _)⟩) ?_
      refine SL.step rfl rfl rfl (Res.load1 (v := byte (Aes.sub (Aes.kf key (4 * i - 4)))) rfl rfl Try.underlying5 rfl (hS.cell (PH.cell_mono hle1 (tcell _ (by rw [Aes.boxL_len]; exact UInt8.toNat_lt _))))) ?_
      refine SL.nil ?_
      refine WL.step rfl (Stp.lit (vals := [(0, byte (Aes.sub (Aes.kf key (4 * i - 3)) ^^^ Aes.pow ((i - 1) / 4))), (1, byte (Aes.sub (Aes.kf key (4 * i - 2)))), (2, byte (Aes.sub (Aes.kf key (4 * i - 1)))), (3, byte (Aes.sub (Aes.kf key (4 * i - 4))))]) (cs := bs [Aes.sub (Aes.kf key (4 * i - 3)) ^^^ Aes.pow ((i - 1) / 4), Aes.sub (Aes.kf key (4 * i - 2)), Aes.sub (Aes.kf key (4 * i - 1)), Aes.sub (Aes.kf key (4 * i - 4))]) (e := 5) rfl rfl (fun _ => by kernel_rfl) rfl rfl hS ?_)
      intro bx w hbx hS hkp hnw
      have hF := hS.freeze (i := 0) rfl hbx
      obtain ⟨M2, hle2, hM2, hS⟩ : ∃ M2, PH.le M1 M2 ∧ (∀ j, j < 4 → PH.cell M2 bx j = some (byte (List.getD [Aes.sub (Aes.kf key (4 * i - 3)) ^^^ Aes.pow ((i - 1) / 4), Aes.sub (Aes.kf key (4 * i - 2)), Aes.sub (Aes.kf key (4 * i - 1)), Aes.sub (Aes.kf key (4 * i - 4))] j 0))) ∧ St w0 w M2 ([(bw, .cells cw 5 (0, 0))] ++ [(b6, .cells (bs (List.replicate 176 0)) 36 (0, 0)), (b4, .cells (bs (List.replicate 176 0)) 36 (0, 0))]) := ⟨_, hF.2, fun j hj => PH.cell_of (PH.add_self _ _ _) (bs_get hj), hF.1⟩
      refine WL.step rfl (Stp.res rfl rfl (Res.assign rfl rfl) ?_)
      refine WL.nil (Thn_n ?_)
      refine CW.region ?_
      refine WL.step rfl (Stp.res rfl rfl (Res.move rfl rfl) ?_)
      refine WL.step rfl (Stp.callA (args := [_, byte 2]) rfl rfl rfl cal12 rfl rfl (rtimes_ok _ _ _) ?_)
      refine WL.step rfl (Stp.res rfl rfl (Res.assign rfl rfl) ?_)
      refine WL.nil (Thn_n ?_)
      refine CW.seq ?_
      refine CW.region ?_
      refine WL.step rfl (Stp.res rfl rfl (Res.assign rfl rfl) ?_)
      refine WL.nil (Thn_n ?_)
      refine CW.block ?_
      obtain ⟨M3, hle3, hM3, hS⟩ : ∃ M3, M.le M3 ∧ (∀ j, j < 4 → PH.cell M3 bx j = some (byte ((Aes.word key i).getD j 0))) ∧ St w0 w M3 ([(bw, .cells cw 5 (0, 0))] ++ [(b6, .cells (bs (List.replicate 176 0)) 36 (0, 0)), (b4, .cells (bs (List.replicate 176 0)) 36 (0, 0))]) := ⟨_, hle1.trans hle2, fun j hj => by rw [hM2 j hj]; rw [Aes.word, if_pos h4, show i / 4 - 1 = (i - 1) / 4 by omega], hS⟩
      have hrc : Aes.times (Aes.pow ((i - 1) / 4)) 2 = Aes.pow (i / 4) := by rw [Aes.pow_step]; congr 1; omega
      refine CW.loop (σ := Nat × Value × Owned) (fun s => [(0, .slice (some ⟨tb, to_, none⟩) Aes.boxL.length tc), (4, .pointer (some ⟨b4, 0, none⟩)), (5, .int .i64 0), (6, .pointer (some ⟨b6, 0, none⟩)), (7, s.2.1), (8, byte (Aes.pow (i / 4))), (9, .int .i64 (i : Int)), (10, .slice (some ⟨bx, 0, none⟩) 4 4), (11, .int .i64 (s.1 : Int))])
        (fun s w' => s.1 ≤ 4 ∧ St w0 w' M3 (s.2.2 ++ [(b6, .cells (bs (List.replicate 176 0)) 36 (0, 0)), (b4, .cells (bs (List.replicate 176 0)) 36 (0, 0))]) ∧ OwnB w0.heap.size s.2.2 s.2.1 (Aes.kl key (4 * i + s.1)) 5) (fun s => 4 - s.1) (0, _, _) ⟨rfl, rfl, rfl, rfl, rfl, bytec hrc, rfl, rfl, rfl, trivial⟩ ⟨by dsimp only; omega, hS, hown0⟩ ?_
      rintro ⟨j, v, g⟩ w2 ⟨hj, hS, hown⟩
      dsimp only at hj hS hown ⊢
      refine CW.seq ?_
      refine CW.seq ?_
      refine CW.region ?_
      refine WL.step rfl (Stp.res rfl rfl (Res.move rfl rfl) ?_)
      refine WL.step rfl (Stp.res rfl rfl (Res.lss rfl rfl rfl) ?_)
      refine WL.nil (Thn_n ?_)
      refine CW.ite rfl (fun h5 => ?_) (fun h5 => ?_)
      · have hlj : j < 4 := by omega
        refine CW.skip (Thn_n ?_)
        refine CW.seq ?_
        refine CW.block ?_
        have hown0 := hown
        obtain ⟨bw, cw, capw, hbw, rfl, rfl, hcw⟩ := hown.open (by rw [Aes.kl_len]; omega)
        have hS := hS.drew
        have hK0 : (fun w' => w'.cell? ⟨bw, 4 * i - 16 + j, none⟩ = some (byte (Aes.kf key (4 * i - 16 + j))) ∧ w'.cell? ⟨bx, j, none⟩ = some (byte ((Aes.word key i).getD j 0))) w2.drew := And.intro (hS.ocell (i := 0) rfl (by rw [hcw _ (by rw [Aes.kl_len]; omega), Aes.kl_at _ (by omega)])) (hS.cell (hM3 j hlj))
        refine CW.last (fun w' => w'.cell? ⟨bw, 4 * i - 16 + j, none⟩ = some (byte (Aes.kf key (4 * i - 16 + j))) ∧ w'.cell? ⟨bx, j, none⟩ = some (byte ((Aes.word key i).getD j 0))) [15, 16] mixed ?_
        refine ZL.take 0 rfl (by kernel_rfl) rfl rfl rfl hK0 (fun w hK => Res.move rfl rfl) ?_
        refine ZL.take 1 rfl (by kernel_rfl) rfl rfl rfl hK0 (fun w hK => Res.move rfl rfl) ?_
        refine ZL.take 2 rfl (by kernel_rfl) rfl rfl rfl hK0 (fun w hK => Res.move rfl rfl) ?_
        refine ZL.take 3 rfl (by kernel_rfl) rfl rfl rfl hK0 (fun w hK => Res.mul rfl rfl rfl (by omega)) ?_
        refine ZL.take 4 rfl (by kernel_rfl) rfl rfl rfl hK0 (fun w hK => Res.sub rfl rfl rfl (by omega)) ?_
        refine ZL.take 5 rfl (by kernel_rfl) rfl rfl rfl hK0 (fun w hK => Res.move rfl rfl) ?_
        refine ZL.take 6 rfl (by kernel_rfl) rfl rfl rfl hK0 (fun w hK => Res.add rfl rfl rfl (by omega)) ?_
        refine ZL.take 7 rfl (by kernel_rfl) rfl rfl rfl hK0 (fun w hK => Res.idxS0 (k := 4 * i - 16 + j) rfl rfl rfl Try.underlying26 sz5 (by omega) (by rw [Aes.kl_len]; omega)) ?_
        refine ZL.take 8 rfl (by kernel_rfl) rfl rfl rfl hK0 (fun w hK => Res.load1 rfl rfl Try.underlying5 rfl hK.1) ?_
        refine ZL.take 9 rfl (by kernel_rfl) rfl rfl rfl hK0 (fun w hK => Res.move rfl rfl) ?_
        refine ZL.take 10 rfl (by kernel_rfl) rfl rfl rfl hK0 (fun w hK => Res.move rfl rfl) ?_
        refine ZL.take 11 rfl (by kernel_rfl) rfl rfl rfl hK0 (fun w hK => Res.idxS0 (k := j) rfl rfl rfl Try.underlying26 sz5 (Int.toNat_natCast _) (by omega)) ?_
        refine ZL.take 12 rfl (by kernel_rfl) rfl rfl rfl hK0 (fun w hK => Res.load1 rfl rfl Try.underlying5 rfl hK.2) ?_
        refine ZL.take 13 rfl (by kernel_rfl) rfl rfl rfl hK0 (fun w hK => Res.xorB _ rfl rfl rfl) ?_
        refine ZL.one 14 rfl (by kernel_rfl) rfl (Stp.lit (vals := [(0, byte (Aes.kf key (4 * i - 16 + j) ^^^ (Aes.word key i).getD j 0))]) (cs := bs [Aes.kf key (4 * i - 16 + j) ^^^ (Aes.word key i).getD j 0]) (e := 5) rfl rfl (fun _ => by kernel_rfl) rfl rfl hS ?_)
        intro b100 w hb100 hS hkp hnw
        have hF := hS.freeze (i := 0) rfl hb100
        have hS := hF.1
        change St w0 w _ ([(bw, .cells cw 5 (0, 0))] ++ [(b6, .cells (bs (List.replicate 176 0)) 36 (0, 0)), (b4, .cells (bs (List.replicate 176 0)) 36 (0, 0))]) at hS
        have hK0 : (fun w' => w'.cell? ⟨bw, 4 * i - 16 + j, none⟩ = some (byte (Aes.kf key (4 * i - 16 + j))) ∧ w'.cell? ⟨bx, j, none⟩ = some (byte ((Aes.word key i).getD j 0))) w := And.intro (hS.ocell (i := 0) rfl (by rw [hcw _ (by rw [Aes.kl_len]; omega), Aes.kl_at _ (by omega)])) (hS.cell (PH.cell_mono hF.2 (hM3 j hlj)))
        refine ⟨hK0, ?_⟩
        refine ZL.end 15 (by decide) rfl (by kernel_rfl) rfl (Stp.appendB (l := Aes.kl key (4 * i + j)) (r := [Aes.kf key (4 * i - 16 + j) ^^^ (Aes.word key i).getD j 0]) rfl rfl rfl rfl et26 (Src.ofBs Try.underlying26 hS (Bs.of' (PH.add_self _ _ _) rfl (by omega))) hS hown0 (by rw [Aes.kl_len]; show 4 * i + j + 1 ≤ _; omega) rfl rfl ?_)
        intro v' w g' hS hown
        rw [Aes.kf_step key (by omega) hlj, Aes.kl_succ] at hown
        have hS := hS.known hF.2
        refine ZL.end 16 (by decide) rfl (by kernel_rfl) rfl (Stp.res rfl rfl (Res.assign rfl rfl) ?_)
        refine ZL.done (by kernel_rfl) (Blk_n (Thn_n ?_))
        refine CW.region ?_
        refine WL.step rfl (Stp.res rfl rfl (Res.move rfl rfl) ?_)
        refine WL.step rfl (Stp.res rfl rfl (Res.add rfl rfl rfl (by omega)) ?_)
        refine WL.step rfl (Stp.res rfl rfl (Res.assign rfl rfl) ?_)
        refine WL.nil (Thn_n ?_)
        exact ⟨(j + 1, _, _), ⟨rfl, rfl, rfl, rfl, rfl, rfl, rfl, rfl, rfl, trivial⟩, ⟨by dsimp only; omega, hS, hown⟩, by dsimp only; omega⟩
      · obtain rfl : j = 4 := by omega
        refine CW.exit (Thn_x (Thn_x (Blk_x (Blk_n (Thn_n ?_)))))
        refine CW.region ?_
        refine WL.step rfl (Stp.res rfl rfl (Res.move rfl rfl) ?_)
        refine WL.step rfl (Stp.res rfl rfl (Res.add rfl rfl rfl (by omega)) ?_)
        refine WL.step rfl (Stp.res rfl rfl (Res.assign rfl rfl) ?_)
        refine WL.nil (Thn_n ?_)
        rw [show 4 * i + 4 = 4 * (i + 1) by omega] at hown
        exact ⟨(i + 1, _, _), ⟨rfl, rfl, rfl, rfl, rfl, bytec (by rw [show i + 1 - 1 = i by omega]), rfl, trivial⟩, ⟨by dsimp only; omega, by dsimp only; omega, hS.known hle3, hown⟩, by dsimp only; omega⟩
    · have h4 : ¬ i % 4 = 0 := by omega
      refine CW.skip (Thn_n ?_)
      refine CW.seq ?_
      refine CW.region ?_
      refine WL.step rfl (Stp.res rfl rfl (Res.assign rfl rfl) ?_)
      refine WL.nil (Thn_n ?_)
      refine CW.block ?_
      obtain ⟨M3, hle3, hM3, hS⟩ : ∃ M3, M.le M3 ∧ (∀ j, j < 4 → PH.cell M3 bx j = some (byte ((Aes.word key i).getD j 0))) ∧ St w0 w M3 ([(bw, .cells cw 5 (0, 0))] ++ [(b6, .cells (bs (List.replicate 176 0)) 36 (0, 0)), (b4, .cells (bs (List.replicate 176 0)) 36 (0, 0))]) := ⟨_, hle1, fun j hj => by rw [hM1 j hj]; rw [Aes.word, if_neg h4], hS⟩
      have hrc : Aes.pow ((i - 1) / 4) = Aes.pow (i / 4) := by congr 1; omega
      refine CW.loop (σ := Nat × Value × Owned) (fun s => [(0, .slice (some ⟨tb, to_, none⟩) Aes.boxL.length tc), (4, .pointer (some ⟨b4, 0, none⟩)), (5, .int .i64 0), (6, .pointer (some ⟨b6, 0, none⟩)), (7, s.2.1), (8, byte (Aes.pow (i / 4))), (9, .int .i64 (i : Int)), (10, .slice (some ⟨bx, 0, none⟩) 4 4), (11, .int .i64 (s.1 : Int))])
        (fun s w' => s.1 ≤ 4 ∧ St w0 w' M3 (s.2.2 ++ [(b6, .cells (bs (List.replicate 176 0)) 36 (0, 0)), (b4, .cells (bs (List.replicate 176 0)) 36 (0, 0))]) ∧ OwnB w0.heap.size s.2.2 s.2.1 (Aes.kl key (4 * i + s.1)) 5) (fun s => 4 - s.1) (0, _, _) ⟨rfl, rfl, rfl, rfl, rfl, bytec hrc, rfl, rfl, rfl, trivial⟩ ⟨by dsimp only; omega, hS, hown0⟩ ?_
      rintro ⟨j, v, g⟩ w2 ⟨hj, hS, hown⟩
      dsimp only at hj hS hown ⊢
      refine CW.seq ?_
      refine CW.seq ?_
      refine CW.region ?_
      refine WL.step rfl (Stp.res rfl rfl (Res.move rfl rfl) ?_)
      refine WL.step rfl (Stp.res rfl rfl (Res.lss rfl rfl rfl) ?_)
      refine WL.nil (Thn_n ?_)
      refine CW.ite rfl (fun h5 => ?_) (fun h5 => ?_)
      · have hlj : j < 4 := by omega
        refine CW.skip (Thn_n ?_)
        refine CW.seq ?_
        refine CW.block ?_
        have hown0 := hown
        obtain ⟨bw, cw, capw, hbw, rfl, rfl, hcw⟩ := hown.open (by rw [Aes.kl_len]; omega)
        have hS := hS.drew
        have hK0 : (fun w' => w'.cell? ⟨bw, 4 * i - 16 + j, none⟩ = some (byte (Aes.kf key (4 * i - 16 + j))) ∧ w'.cell? ⟨bx, j, none⟩ = some (byte ((Aes.word key i).getD j 0))) w2.drew := And.intro (hS.ocell (i := 0) rfl (by rw [hcw _ (by rw [Aes.kl_len]; omega), Aes.kl_at _ (by omega)])) (hS.cell (hM3 j hlj))
        refine CW.last (fun w' => w'.cell? ⟨bw, 4 * i - 16 + j, none⟩ = some (byte (Aes.kf key (4 * i - 16 + j))) ∧ w'.cell? ⟨bx, j, none⟩ = some (byte ((Aes.word key i).getD j 0))) [15, 16] mixed ?_
        refine ZL.take 0 rfl (by kernel_rfl) rfl rfl rfl hK0 (fun w hK => Res.move rfl rfl) ?_
        refine ZL.take 1 rfl (by kernel_rfl) rfl rfl rfl hK0 (fun w hK => Res.move rfl rfl) ?_
        refine ZL.take 2 rfl (by kernel_rfl) rfl rfl rfl hK0 (fun w hK => Res.move rfl rfl) ?_
        refine ZL.take 3 rfl (by kernel_rfl) rfl rfl rfl hK0 (fun w hK => Res.mul rfl rfl rfl (by omega)) ?_
        refine ZL.take 4 rfl (by kernel_rfl) rfl rfl rfl hK0 (fun w hK => Res.sub rfl rfl rfl (by omega)) ?_
        refine ZL.take 5 rfl (by kernel_rfl) rfl rfl rfl hK0 (fun w hK => Res.move rfl rfl) ?_
        refine ZL.take 6 rfl (by kernel_rfl) rfl rfl rfl hK0 (fun w hK => Res.add rfl rfl rfl (by omega)) ?_
        refine ZL.take 7 rfl (by kernel_rfl) rfl rfl rfl hK0 (fun w hK => Res.idxS0 (k := 4 * i - 16 + j) rfl rfl rfl Try.underlying26 sz5 (by omega) (by rw [Aes.kl_len]; omega)) ?_
        refine ZL.take 8 rfl (by kernel_rfl) rfl rfl rfl hK0 (fun w hK => Res.load1 rfl rfl Try.underlying5 rfl hK.1) ?_
        refine ZL.take 9 rfl (by kernel_rfl) rfl rfl rfl hK0 (fun w hK => Res.move rfl rfl) ?_
        refine ZL.take 10 rfl (by kernel_rfl) rfl rfl rfl hK0 (fun w hK => Res.move rfl rfl) ?_
        refine ZL.take 11 rfl (by kernel_rfl) rfl rfl rfl hK0 (fun w hK => Res.idxS0 (k := j) rfl rfl rfl Try.underlying26 sz5 (Int.toNat_natCast _) (by omega)) ?_
        refine ZL.take 12 rfl (by kernel_rfl) rfl rfl rfl hK0 (fun w hK => Res.load1 rfl rfl Try.underlying5 rfl hK.2) ?_
        refine ZL.take 13 rfl (by kernel_rfl) rfl rfl rfl hK0 (fun w hK => Res.xorB _ rfl rfl rfl) ?_
        refine ZL.one 14 rfl (by kernel_rfl) rfl (Stp.lit (vals := [(0, byte (Aes.kf key (4 * i - 16 + j) ^^^ (Aes.word key i).getD j 0))]) (cs := bs [Aes.kf key (4 * i - 16 + j) ^^^ (Aes.word key i).getD j 0]) (e := 5) rfl rfl (fun _ => by kernel_rfl) rfl rfl hS ?_)
        intro b100 w hb100 hS hkp hnw
        have hF := hS.freeze (i := 0) rfl hb100
        have hS := hF.1
        change St w0 w _ ([(bw, .cells cw 5 (0, 0))] ++ [(b6, .cells (bs (List.replicate 176 0)) 36 (0, 0)), (b4, .cells (bs (List.replicate 176 0)) 36 (0, 0))]) at hS
        have hK0 : (fun w' => w'.cell? ⟨bw, 4 * i - 16 + j, none⟩ = some (byte (Aes.kf key (4 * i - 16 + j))) ∧ w'.cell? ⟨bx, j, none⟩ = some (byte ((Aes.word key i).getD j 0))) w := And.intro (hS.ocell (i := 0) rfl (by rw [hcw _ (by rw [Aes.kl_len]; omega), Aes.kl_at _ (by omega)])) (hS.cell (PH.cell_mono hF.2 (hM3 j hlj)))
        refine ⟨hK0, ?_⟩
        refine ZL.end 15 (by decide) rfl (by kernel_rfl) rfl (Stp.appendB (l := Aes.kl key (4 * i + j)) (r := [Aes.kf key (4 * i - 16 + j) ^^^ (Aes.word key i).getD j 0]) rfl rfl rfl rfl et26 (Src.ofBs Try.underlying26 hS (Bs.of' (PH.add_self _ _ _) rfl (by omega))) hS hown0 (by rw [Aes.kl_len]; show 4 * i + j + 1 ≤ _; omega) rfl rfl ?_)
        intro v' w g' hS hown
        rw [Aes.kf_step key (by omega) hlj, Aes.kl_succ] at hown
        have hS := hS.known hF.2
        refine ZL.end 16 (by decide) rfl (by kernel_rfl) rfl (Stp.res rfl rfl (Res.assign rfl rfl) ?_)
        refine ZL.done (by kernel_rfl) (Blk_n (Thn_n ?_))
        refine CW.region ?_
        refine WL.step rfl (Stp.res rfl rfl (Res.move rfl rfl) ?_)
        refine WL.step rfl (Stp.res rfl rfl (Res.add rfl rfl rfl (by omega)) ?_)
        refine WL.step rfl (Stp.res rfl rfl (Res.assign rfl rfl) ?_)
        refine WL.nil (Thn_n ?_)
        exact ⟨(j + 1, _, _), ⟨rfl, rfl, rfl, rfl, rfl, rfl, rfl, rfl, rfl, trivial⟩, ⟨by dsimp only; omega, hS, hown⟩, by dsimp only; omega⟩
      · obtain rfl : j = 4 := by omega
        refine CW.exit (Thn_x (Thn_x (Blk_x (Blk_n (Thn_n ?_)))))
        refine CW.region ?_
        refine WL.step rfl (Stp.res rfl rfl (Res.move rfl rfl) ?_)
        refine WL.step rfl (Stp.res rfl rfl (Res.add rfl rfl rfl (by omega)) ?_)
        refine WL.step rfl (Stp.res rfl rfl (Res.assign rfl rfl) ?_)
        refine WL.nil (Thn_n ?_)
        rw [show 4 * i + 4 = 4 * (i + 1) by omega] at hown
        exact ⟨(i + 1, _, _), ⟨rfl, rfl, rfl, rfl, rfl, bytec (by rw [show i + 1 - 1 = i by omega]), rfl, trivial⟩, ⟨by dsimp only; omega, by dsimp only; omega, hS.known hle3, hown⟩, by dsimp only; omega⟩
  · obtain rfl : i = 44 := by omega
    have hown0 := hown
    obtain ⟨bw, cw, capw, hbw, rfl, rfl, hcw⟩ := hown.open (by rw [Aes.kl_len]; omega)
    refine CW.exit (Thn_x (Thn_x (Blk_x (Thn_n ?_))))
    refine CW.seq ?_
    refine CW.seq ?_
    refine CW.region ?_
    refine WL.step rfl (Stp.res rfl rfl (Res.assign rfl rfl) ?_)
    refine WL.nil (Thn_n ?_)
    refine CW.block ?_
    change St w0 w1 M [(bw, .cells cw 5 (0, 0)), (b6, .cells (bs (List.replicate 176 0)) 36 (0, 0)), (b4, .cells (bs (List.replicate 176 0)) 36 (0, 0))] at hS
    refine CW.loop (σ := Nat) (fun n => [(4, .pointer (some ⟨b4, 0, none⟩)), (5, .int .i64 0), (6, .pointer (some ⟨b6, 0, none⟩)), (7, .slice (some ⟨bw, 0, none⟩) (Aes.kl key (4 * 44)).length capw), (12, .int .i64 (n : Int))])
      (fun n w' => n ≤ 176 ∧ St w0 w' M [(bw, .cells cw 5 (0, 0)), (b6, .cells (bs (Aes.upTo n (Aes.kf key) (List.replicate 176 0))) 36 (0, 0)), (b4, .cells (bs (List.replicate 176 0)) 36 (0, 0))]) (fun n => 176 - n) 0 ⟨rfl, rfl, rfl, rfl, rfl, trivial⟩ ⟨by omega, by rw [Aes.upTo_zero]; exact hS⟩ ?_
    rintro n w4 ⟨hn, hS⟩
    refine CW.seq ?_
    refine CW.seq ?_
    refine CW.region ?_
    refine WL.step rfl (Stp.res rfl rfl (Res.move rfl rfl) ?_)
    refine WL.step rfl (Stp.res rfl rfl (Res.lss rfl rfl rfl) ?_)
    refine WL.nil (Thn_n ?_)
    refine CW.ite rfl (fun h => ?_) (fun h => ?_)
    · have hlt : n < 176 := by omega
      refine CW.skip (Thn_n ?_)
      refine CW.seq ?_
      refine CW.block ?_
      have hS := hS.drew
      refine CW.tail 10 mixed (by kernel_rfl) ?_
      refine SL.step rfl rfl rfl (Res.move rfl rfl) ?_
      refine SL.step rfl rfl rfl (Res.quo rfl rfl rfl (by omega)) ?_
      refine SL.step rfl rfl rfl (Res.move rfl rfl) ?_
      refine SL.step rfl rfl rfl (Res.rem rfl rfl rfl (by omega)) ?_
      refine SL.step rfl rfl rfl (Res.move rfl rfl) ?_
      refine SL.step rfl rfl rfl (Res.move rfl rfl) ?_
      refine SL.step rfl rfl rfl (Res.idxS0 (k := n) rfl rfl rfl Try.underlying26 sz5 (Int.toNat_natCast _) (by rw [Aes.kl_len]; omega)) ?_
      refine SL.step rfl rfl rfl (Res.load1 (v := byte (Aes.kf key n)) rfl rfl Try.underlying5 rfl (hS.ocell (i := 0) rfl (by rw [hcw _ (by rw [Aes.kl_len]; omega), Aes.kl_at _ (by omega)]))) ?_
      refine SL.step rfl rfl rfl (Res.idxAN (k := n / 16) rfl rfl rfl Try.underlying36 sz29 (by omega) (by omega)) ?_
      refine SL.step rfl rfl rfl (Res.idxA1 (k := n % 16) rfl rfl rfl Try.underlying29 sz5 (by omega) (by omega)) ?_
      refine SL.nil ?_
      refine WL.step rfl (Stp.storeB 1 rfl rfl rfl sz5 rfl hS rfl (by rw [Aes.upTo_length, List.length_replicate]; omega) ?_)
      intro w hS hpt
      rw [show n / 16 * 16 + n % 16 = n by omega, Aes.upTo_set] at hS
      refine WL.nil (Blk_n (Thn_n ?_))
      refine CW.region ?_
      refine WL.step rfl (Stp.res rfl rfl (Res.move rfl rfl) ?_)
      refine WL.step rfl (Stp.res rfl rfl (Res.add rfl rfl rfl (by omega)) ?_)
      refine WL.step rfl (Stp.res rfl rfl (Res.assign rfl rfl) ?_)
      refine WL.nil (Thn_n ?_)
      exact ⟨n + 1, ⟨rfl, rfl, rfl, rfl, rfl, trivial⟩, ⟨by omega, hS⟩, by omega⟩
    · obtain rfl : n = 176 := by omega
      refine CW.exit (Thn_x (Thn_x (Blk_x (Thn_n ?_))))
      refine CW.seq ?_
      refine CW.region ?_
      refine WL.step rfl (Stp.res rfl rfl (Res.loadAll rfl rfl Try.underlying36 rfl (by rw [size_bs, Aes.upTo_length, List.length_replicate]; exact sz36) (hS.get (i := 1) rfl)) ?_)
      refine WL.step rfl (Stp.storeAllB 2 rfl rfl rfl sz36 rfl hS rfl ⟨List.length_replicate .., by rw [Aes.upTo_length, List.length_replicate]⟩ ?_)
      intro w hS hpt
      refine WL.step rfl (Stp.res rfl rfl (Res.assign rfl rfl) ?_)
      refine WL.nil (Thn_n ?_)
      refine CW.ret ?_
      refine fq_cell_tmp rfl rfl rfl (hS.get (i := 2) rfl) Try.underlying36 rfl (by rw [size_bs, Aes.upTo_length, List.length_replicate]; exact sz36) ⟨M, ((hS.drop (i := 0) rfl hbw).drop (i := 0) rfl hb6).drop (i := 0) rfl hb4, PH.le.refl _, Fresh.refl _ _, rfl, ?_⟩
      rw [Aes.upTo_all _ _ 176 (List.length_replicate ..)]
      rfl
end Go.Proofs.Ytanogodfnfkkbaa
