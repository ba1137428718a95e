/- Own text of this seat (A4): lemmas on the way to the statement; no condition of its own. -/
import Derived.Test.YtanogodfnfkkbaaA3
set_option linter.unusedVariables false
namespace Go.Proofs.Ytanogodfnfkkbaa
open Go Go.E
theorem encrypt_bad (kv bv : Value) (key blk : List UInt8) (w0 : World) (M : PH) (hM : On M w0) (hkey : Bs M kv key) (hblk : Bs M bv blk) (hbad : key.length ≠ 16 ∨ blk.length ≠ 16) : Ok Try.prog 14 #[kv, bv] w0 M (fun M' r => M = M' ∧ r = .tuple #[.slice none 0 0, .int .i64 2]) := by
  have hS := hM.st
  have hkey0 := hkey
  have hblk0 := hblk
  obtain ⟨kv_a, kv_c, rfl, kv_1, kv_2, kv_3, kv_4⟩ := hkey
  obtain ⟨bv_a, bv_c, rfl, bv_1, bv_2, bv_3, bv_4⟩ := hblk
  have hst : Ok Try.prog 24 #[.slice kv_a key.length kv_c, .slice bv_a blk.length bv_c] w0 M (fun M' r => M = M' ∧ ∃ l : List UInt8, l.length = 176 ∧ r = .tuple #[.pointer none, .agg (bs l), .int .i64 2]) := by
    by_cases hk : key.length = 16
    · exact (start_bad2 _ _ _ _ _ _ hM hkey0 hblk0 hk (by omega)).mono fun e w' ⟨v, M', h1, h2, h3, h4, h5, h6⟩ => ⟨v, M', h1, h2, h3, h4, h5, _, Aes.keysL_length key, h6⟩
    · exact (start_bad1 _ _ _ _ _ _ hM hkey0 hblk0 hk).mono fun e w' ⟨v, M', h1, h2, h3, h4, h5, h6⟩ => ⟨v, M', h1, h2, h3, h4, h5, _, List.length_replicate .., h6⟩
  refine enterB (l := [.slice kv_a key.length kv_c, .slice bv_a blk.length bv_c]) 62 Try.func14 rfl Try.ntmps14 rfl ?_
  refine CW.seq ?_
  refine CW.region ?_
  refine WL.step rfl (Stp.res rfl rfl (Res.assign rfl rfl) ?_)
  refine WL.step rfl (Stp.res rfl rfl (Res.assign rfl rfl) ?_)
  refine WL.nil (Thn_n ?_)
  refine CW.seq ?_
  refine CW.region ?_
  refine WL.step rfl (Stp.res rfl rfl (Res.move rfl rfl) ?_)
  refine WL.step rfl (Stp.res rfl rfl (Res.move rfl rfl) ?_)
  refine WL.step rfl (Stp.callB (args := [_, _]) rfl rfl rfl cal24 rfl rfl hS (hst) ?_)
  rintro _ w _ hS _ _ hkp ⟨rfl, kl, hkl, rfl⟩
  refine WL.step rfl (Stp.res rfl rfl (Res.move rfl rfl) ?_)
  refine WL.step rfl (Stp.res rfl rfl (Res.extract (l := [_, _, _]) rfl rfl rfl) ?_)
  refine WL.step rfl (Stp.res rfl rfl (Res.extract (l := [_, _, _]) rfl rfl rfl) ?_)
  refine WL.step rfl (Stp.res rfl rfl (Res.extract (l := [_, _, _]) rfl rfl rfl) ?_)
  refine WL.step rfl (Stp.alloc (cs := bs (List.replicate 176 0)) rfl z36 rfl rfl rfl hS ?_)
  intro b7 w hb7 hS hkp hnw
  refine WL.step rfl (Stp.res rfl rfl (Res.assign rfl rfl) ?_)
  refine WL.step rfl (Stp.storeAllB 0 rfl rfl rfl sz36 rfl hS rfl ⟨List.length_replicate .., hkl⟩ ?_)
  intro w hS hpt
  refine WL.step rfl (Stp.res rfl rfl (Res.assign rfl rfl) ?_)
  refine WL.nil (Thn_n ?_)
  refine CW.seq ?_
  refine CW.seq ?_
  refine CW.region ?_
  refine WL.step rfl (Stp.res rfl rfl (Res.move rfl rfl) ?_)
  refine WL.step rfl (Stp.res rfl rfl (Res.neq rfl rfl rfl) ?_)
  refine WL.nil (Thn_n ?_)
  refine CW.condT rfl ?_
  refine CW.seq ?_
  refine CW.region ?_
  refine WL.step rfl (Stp.res rfl rfl (Res.move rfl rfl) ?_)
  refine WL.step rfl (Stp.res rfl rfl (Res.assign rfl rfl) ?_)
  refine WL.step rfl (Stp.res rfl rfl (Res.assign rfl rfl) ?_)
  refine WL.nil (Thn_n ?_)
  refine CW.ret (Thn_r ?_)
  exact fq_tmp2 rfl rfl rfl ⟨M, hS.drop (i := 0) rfl hb7, PH.le.refl _, Fresh.refl _ _, rfl, rfl⟩

theorem decrypt_bad (kv bv : Value) (key blk : List UInt8) (w0 : World) (M : PH) (hM : On M w0) (hkey : Bs M kv key) (hblk : Bs M bv blk) (hbad : key.length ≠ 16 ∨ blk.length ≠ 16) : Ok Try.prog 18 #[kv, bv] w0 M (fun M' r => M = M' ∧ r = .tuple #[.slice none 0 0, .int .i64 2]) := by
  have hS := hM.st
  have hkey0 := hkey
  have hblk0 := hblk
  obtain ⟨kv_a, kv_c, rfl, kv_1, kv_2, kv_3, kv_4⟩ := hkey
  obtain ⟨bv_a, bv_c, rfl, bv_1, bv_2, bv_3, bv_4⟩ := hblk
  have hst : Ok Try.prog 24 #[.slice kv_a key.length kv_c, .slice bv_a blk.length bv_c] w0 M (fun M' r => M = M' ∧ ∃ l : List UInt8, l.length = 176 ∧ r = .tuple #[.pointer none, .agg (bs l), .int .i64 2]) := by
    by_cases hk : key.length = 16
    · exact (start_bad2 _ _ _ _ _ _ hM hkey0 hblk0 hk (by omega)).mono fun e w' ⟨v, M', h1, h2, h3, h4, h5, h6⟩ => ⟨v, M', h1, h2, h3, h4, h5, _, Aes.keysL_length key, h6⟩
    · exact (start_bad1 _ _ _ _ _ _ hM hkey0 hblk0 hk).mono fun e w' ⟨v, M', h1, h2, h3, h4, h5, h6⟩ => ⟨v, M', h1, h2, h3, h4, h5, _, List.length_replicate .., h6⟩
  refine enterB (l := [.slice kv_a key.length kv_c, .slice bv_a blk.length bv_c]) 60 Try.func18 rfl Try.ntmps18 rfl ?_
  refine CW.seq ?_
  refine CW.region ?_
  refine WL.step rfl (Stp.res rfl rfl (Res.assign rfl rfl) ?_)
  refine WL.step rfl (Stp.res rfl rfl (Res.assign rfl rfl) ?_)
  refine WL.nil (Thn_n ?_)
  refine CW.seq ?_
  refine CW.region ?_
  refine WL.step rfl (Stp.res rfl rfl (Res.move rfl rfl) ?_)
  refine WL.step rfl (Stp.res rfl rfl (Res.move rfl rfl) ?_)
  refine WL.step rfl (Stp.callB (args := [_, _]) rfl rfl rfl cal24 rfl rfl hS (hst) ?_)
  rintro _ w _ hS _ _ hkp ⟨rfl, kl, hkl, rfl⟩
  refine WL.step rfl (Stp.res rfl rfl (Res.move rfl rfl) ?_)
  refine WL.step rfl (Stp.res rfl rfl (Res.extract (l := [_, _, _]) rfl rfl rfl) ?_)
  refine WL.step rfl (Stp.res rfl rfl (Res.extract (l := [_, _, _]) rfl rfl rfl) ?_)
  refine WL.step rfl (Stp.res rfl rfl (Res.extract (l := [_, _, _]) rfl rfl rfl) ?_)
  refine WL.step rfl (Stp.alloc (cs := bs (List.replicate 176 0)) rfl z36 rfl rfl rfl hS ?_)
  intro b7 w hb7 hS hkp hnw
  refine WL.step rfl (Stp.res rfl rfl (Res.assign rfl rfl) ?_)
  refine WL.step rfl (Stp.storeAllB 0 rfl rfl rfl sz36 rfl hS rfl ⟨List.length_replicate .., hkl⟩ ?_)
  intro w hS hpt
  refine WL.step rfl (Stp.res rfl rfl (Res.assign rfl rfl) ?_)
  refine WL.nil (Thn_n ?_)
  refine CW.seq ?_
  refine CW.seq ?_
  refine CW.region ?_
  refine WL.step rfl (Stp.res rfl rfl (Res.move rfl rfl) ?_)
  refine WL.step rfl (Stp.res rfl rfl (Res.neq rfl rfl rfl) ?_)
  refine WL.nil (Thn_n ?_)
  refine CW.condT rfl ?_
  refine CW.seq ?_
  refine CW.region ?_
  refine WL.step rfl (Stp.res rfl rfl (Res.move rfl rfl) ?_)
  refine WL.step rfl (Stp.res rfl rfl (Res.assign rfl rfl) ?_)
  refine WL.step rfl (Stp.res rfl rfl (Res.assign rfl rfl) ?_)
  refine WL.nil (Thn_n ?_)
  refine CW.ret (Thn_r ?_)
  exact fq_tmp2 rfl rfl rfl ⟨M, hS.drop (i := 0) rfl hb7, PH.le.refl _, Fresh.refl _ _, rfl, rfl⟩

theorem encrypt_ok (kv bv : Value) (key blk : List UInt8) (w0 : World) (M : PH) (hM : On M w0) (hkey : Bs M kv key) (hblk : Bs M bv blk) (hk : key.length = 16) (hb16 : blk.length = 16) : Ok Try.prog 14 #[kv, bv] w0 M (fun M' r => ∃ s, r = .tuple #[s, .int .i64 0] ∧ Bs M' s (Aes.enc key blk)) := by
  have hS := hM.st
  refine enterB (l := [kv, bv]) 62 Try.func14 rfl Try.ntmps14 rfl ?_
  refine CW.seq ?_
  refine CW.region ?_
  refine WL.step rfl (Stp.res rfl rfl (Res.assign rfl rfl) ?_)
  refine WL.step rfl (Stp.res rfl rfl (Res.assign rfl rfl) ?_)
  refine WL.nil (Thn_n ?_)
  refine CW.seq ?_
  refine CW.region ?_
  refine WL.step rfl (Stp.res rfl rfl (Res.move rfl rfl) ?_)
  refine WL.step rfl (Stp.res rfl rfl (Res.move rfl rfl) ?_)
  refine WL.step rfl (Stp.callB (args := [_, _]) rfl rfl rfl cal24 rfl rfl hS (start_ok _ _ _ _ _ _ hS.on hkey hblk hk hb16) ?_)
  rintro _ w M' hS hle hfr hkp ⟨b, hMb, hbw, hMb', rfl⟩
  have hS := hS.take hMb' hle hMb
  refine WL.step rfl (Stp.res rfl rfl (Res.move rfl rfl) ?_)
  refine WL.step rfl (Stp.res rfl rfl (Res.extract (l := [_, _, _]) rfl rfl rfl) ?_)
  refine WL.step rfl (Stp.res rfl rfl (Res.extract (l := [_, _, _]) rfl rfl rfl) ?_)
  refine WL.step rfl (Stp.res rfl rfl (Res.extract (l := [_, _, _]) rfl rfl rfl) ?_)
  refine WL.step rfl (Stp.alloc (cs := bs (List.replicate 176 0)) rfl z36 rfl rfl rfl hS ?_)
  intro b7 w hb7 hS hkp hnw
  refine WL.step rfl (Stp.res rfl rfl (Res.assign rfl rfl) ?_)
  refine WL.step rfl (Stp.storeAllB 0 rfl rfl rfl sz36 rfl hS rfl ⟨List.length_replicate .., Aes.keysL_length _⟩ ?_)
  intro w hS hpt
  refine WL.step rfl (Stp.res rfl rfl (Res.assign rfl rfl) ?_)
  refine WL.nil (Thn_n ?_)
  refine CW.seq ?_
  refine CW.seq ?_
  refine CW.region ?_
  refine WL.step rfl (Stp.res rfl rfl (Res.move rfl rfl) ?_)
  refine WL.step rfl (Stp.res rfl rfl (Res.neq rfl rfl rfl) ?_)
  refine WL.nil (Thn_n ?_)
  refine CW.condF rfl ?_
  refine CW.skip (Thn_n ?_)
  refine CW.seq ?_
  have hbw := Nat.le_trans (Nat.le_refl _) hbw
  refine CW.region ?_
  refine WL.step rfl (Stp.res rfl rfl (Res.move rfl rfl) ?_)
  refine WL.step rfl (Stp.res rfl rfl (Res.idxAN (k := 0) rfl rfl rfl Try.underlying36 sz29 rfl (by omega)) ?_)
  refine WL.step rfl (Stp.res rfl rfl (Res.loadNB (l := Aes.rk key (0)) rfl rfl Try.underlying29 rfl sz29 (Aes.rk_length hk _) (fun j hj => hS.ocell (i := 0) rfl (by rw [bs_get (by rw [Aes.keysL_length]; omega), Aes.keysL_at key _ j (by omega) hj]))) ?_)
  refine WL.step rfl (Stp.callO 1 (args := [_, _]) rfl rfl rfl cal25 rfl rfl hS rfl (xor_ok _ _ _ _ _ hS.on _ (hS.get (i := 1) rfl) (hS.out (i := 1) rfl) hb16 (Aes.rk_length hk _)) ?_)
  rintro _ w _ _ hS _ _ _ ⟨rfl, rfl, rfl⟩
  refine WL.nil (Thn_n ?_)
  refine CW.seq ?_
  refine CW.seq ?_
  refine CW.region ?_
  refine WL.step rfl (Stp.res rfl rfl (Res.assign rfl rfl) ?_)
  refine WL.nil (Thn_n ?_)
  refine CW.block ?_
  refine CW.loop (σ := Nat) (fun r => [(6, .pointer (some ⟨b, 0, none⟩)), (7, .pointer (some ⟨b7, 0, none⟩)), (8, .int .i64 0), (9, .int .i64 (↑r + 1))])
    (fun r w' => r ≤ 10 ∧ St w0 w' M [(b7, .cells (bs (Aes.keysL key)) 36 (0, 0)), (b, .cells (bs (Aes.encAt key blk r)) 54 (0, 0))]) (fun r => 11 - r) 0 ⟨rfl, rfl, rfl, rfl, trivial⟩ ⟨by omega, hS⟩ ?_
  rintro r w1 ⟨hr, hS⟩
  refine CW.seq ?_
  refine CW.seq ?_
  refine CW.region ?_
  refine WL.step rfl (Stp.res rfl rfl (Res.move rfl rfl) ?_)
  refine WL.step rfl (Stp.res rfl rfl (Res.leq rfl rfl rfl) ?_)
  refine WL.nil (Thn_n ?_)
  refine CW.ite rfl (fun h => ?_) (fun h => ?_)
  · obtain hlt : r ≤ 9 := by omega
    refine CW.skip (Thn_n ?_)
    refine CW.seq ?_
    refine CW.block ?_
    refine CW.seq ?_
    refine CW.seq ?_
    refine CW.region ?_
    refine WL.step rfl (Stp.res rfl rfl (Res.move rfl rfl) ?_)
    refine WL.step rfl (Stp.res rfl rfl (Res.move rfl rfl) ?_)
    refine WL.nil (Thn_n ?_)
    refine CW.block ?_
    refine CW.loop (σ := Nat) (fun k => [(6, .pointer (some ⟨b, 0, none⟩)), (7, .pointer (some ⟨b7, 0, none⟩)), (8, .int .i64 0), (9, .int .i64 (↑r + 1)), (30, .pointer (some ⟨b, 0, none⟩)), (31, .int .i64 k)])
      (fun k w' => k ≤ 16 ∧ St w0 w' M [(b7, .cells (bs (Aes.keysL key)) 36 (0, 0)), (b, .cells (bs (Aes.upTo k (fun j => Aes.sub ((Aes.encAt key blk r).getD j 0)) (Aes.encAt key blk r))) 54 (0, 0))]) (fun k => 16 - k) 0 ⟨rfl, rfl, rfl, rfl, rfl, rfl, trivial⟩ ⟨by omega, by rw [Aes.upTo_zero]; exact hS⟩ ?_
    rintro k w2 ⟨hj, hS⟩
    refine CW.seq ?_
    refine CW.region ?_
    refine WL.step rfl (Stp.res rfl rfl (Res.lss rfl rfl rfl) ?_)
    refine WL.nil (Thn_n ?_)
    refine CW.seq ?_
    refine CW.ite rfl (fun h2 => ?_) (fun h2 => ?_)
    · obtain hlj : k < 16 := by omega
      refine CW.skip (Thn_n ?_)
      refine CW.seq ?_
      refine CW.block ?_
      refine CW.seq ?_
      have hS := hS.drew
      refine CW.still mixed (by kernel_rfl) ?_
      refine SL.step rfl rfl rfl (Res.move rfl rfl) ?_
      refine SL.step rfl rfl rfl (Res.nilCheck rfl rfl) ?_
      first | refine SL.step rfl rfl rfl (Res.idxA0 rfl rfl rfl Try.underlying54 sz5 (by first | exact Int.toNat_natCast _ | rfl) (by omega)) ?_ | refine SL.step rfl rfl rfl (Res.idxA1 rfl rfl rfl Try.underlying54 sz5 (by first | exact Int.toNat_natCast _ | rfl) (by omega)) ?_
      refine SL.step rfl rfl rfl (Res.load1 rfl rfl Try.underlying5 rfl (hS.ocell (i := 1) rfl (bs_get (by rw [Aes.upTo_length, Aes.encAt_length]; omega)))) ?_
      refine SL.step rfl rfl rfl (Res.assign rfl rfl) ?_
      refine SL.step rfl rfl rfl (Res.assign rfl rfl) ?_
      refine SL.nil (Thn_n ?_)
      have hS := hS.drew
      have hK0 : True := trivial
      refine CW.held (fun _ => True) mixed ?_
      refine AL.take 0 rfl (by kernel_rfl) (by kernel_rfl) (by kernel_rfl) rfl rfl rfl hK0 (fun w hK => Res.move rfl rfl) ?_
      refine AL.take 1 rfl (by kernel_rfl) (by kernel_rfl) (by kernel_rfl) rfl rfl rfl hK0 (fun w hK => Res.move rfl rfl) ?_
      refine AL.take 3 rfl (by kernel_rfl) (by kernel_rfl) (by kernel_rfl) rfl rfl rfl hK0 (fun w hK => Res.move rfl rfl) ?_
      refine AL.take 5 rfl (by kernel_rfl) (by kernel_rfl) (by kernel_rfl) rfl rfl rfl hK0 (fun w hK => Res.nilCheck rfl rfl) ?_
      refine AL.one 2 rfl (by kernel_rfl) rfl (Stp.callB (args := []) rfl rfl rfl cal23 rfl rfl hS (box_ok _ _ hS.on) ?_)
      rintro _ w _ hS _ _ hkp ⟨rfl, rfl⟩
      have hK0 : True := trivial
      refine ⟨hK0, ?_⟩
      refine AL.take 4 rfl (by kernel_rfl) (by kernel_rfl) (by kernel_rfl) rfl rfl rfl hK0 (fun w hK => Res.index1 rfl rfl rfl Try.underlying41 sz5 Try.underlying5 rfl (Int.toNat_natCast _) ⟨Int.natCast_nonneg _, Int.ofNat_lt.2 (UInt8.toNat_lt _)⟩ (bs_get (by rw [Aes.boxL_len]; exact UInt8.toNat_lt _))) ?_
      first | refine AL.take 6 rfl (by kernel_rfl) (by kernel_rfl) (by kernel_rfl) rfl rfl rfl hK0 (fun w hK => Res.idxA0 rfl rfl rfl Try.underlying54 sz5 (by first | exact Int.toNat_natCast _ | rfl) (by omega)) ?_ | refine AL.take 6 rfl (by kernel_rfl) (by kernel_rfl) (by kernel_rfl) rfl rfl rfl hK0 (fun w hK => Res.idxA1 rfl rfl rfl Try.underlying54 sz5 (by first | exact Int.toNat_natCast _ | rfl) (by omega)) ?_
      refine AL.one 7 rfl (by kernel_rfl) rfl (Stp.storeB 1 rfl rfl rfl sz5 rfl hS rfl (by rw [Aes.upTo_length, Aes.encAt_length]; omega) ?_)
      intro w hS hpt
      have hK0 : True := trivial
      refine ⟨hK0, ?_⟩
      refine AL.done (by kernel_rfl) (Blk_n (Thn_n ?_))
      refine CW.region ?_
      refine WL.step rfl (Stp.res rfl rfl (Res.add rfl rfl rfl (by omega)) ?_)
      refine WL.step rfl (Stp.res rfl rfl (Res.move rfl rfl) ?_)
      refine WL.nil (Thn_n ?_)
      refine ⟨k + 1, ⟨rfl, rfl, rfl, rfl, rfl, rfl, trivial⟩, ⟨by omega, ?_⟩, by omega⟩
      rw [Aes.upTo_getD _ _ _ _ (by rw [Aes.encAt_length]; omega), if_neg (by omega)] at hS
      rw [← Aes.upTo_set]
      exact hS
    · obtain rfl : k = 16 := by omega
      rw [Aes.upTo_all _ _ 16 (Aes.encAt_length ..)] at hS
      change St w0 w2 M [(b7, .cells (bs (Aes.keysL key)) 36 (0, 0)), (b, .cells (bs (Aes.subB (Aes.encAt key blk r))) 54 (0, 0))] at hS
      refine CW.exit (Thn_x (Thn_x (Blk_x (Thn_n ?_))))
      refine CW.seq ?_
      refine CW.region ?_
      refine WL.step rfl (Stp.res rfl rfl (Res.move rfl rfl) ?_)
      refine WL.step rfl (Stp.callO 1 (args := [_, _]) rfl rfl rfl cal26 rfl rfl hS rfl (turn1_ok _ _ _ _ hS.on _ (hS.get (i := 1) rfl) (hS.out (i := 1) rfl) (by simp)) ?_)
      rintro _ w _ _ hS _ _ _ ⟨rfl, rfl, rfl⟩
      refine WL.nil (Thn_n ?_)
      refine CW.block ?_
      refine CW.seq ?_
      refine CW.block ?_
      refine CW.seq ?_
      refine CW.block ?_
      refine CW.seq ?_
      refine CW.seq ?_
      refine CW.region ?_
      refine WL.step rfl (Stp.res rfl rfl (Res.move rfl rfl) ?_)
      refine WL.step rfl (Stp.res rfl rfl (Res.lss rfl rfl rfl) ?_)
      refine WL.step rfl (Stp.res rfl rfl (Res.assign rfl rfl) ?_)
      refine WL.nil (Thn_n ?_)
      refine CW.ite rfl (fun h3 => ?_) (fun h3 => ?_)
      · refine CW.exit (Thn_x (Blk_x (Thn_n ?_)))
        refine CW.region ?_
        refine WL.step rfl (Stp.res rfl rfl (Res.move rfl rfl) ?_)
        refine WL.step rfl (Stp.res rfl rfl (Res.build (vals := [(0, byte 2), (1, byte 3), (2, byte 1), (3, byte 1)]) (cs := bs [2, 3, 1, 1]) rfl rfl (fun _ => by kernel_rfl)) ?_)
        refine WL.step rfl (Stp.callO 1 (args := [_, _]) rfl rfl rfl cal27 rfl rfl hS rfl (mix_ok _ [2, 3, 1, 1] _ _ _ hS.on _ (hS.get (i := 1) rfl) (hS.out (i := 1) rfl) (by simp) rfl) ?_)
        rintro _ w _ _ hS _ _ _ ⟨rfl, rfl, rfl⟩
        refine WL.nil (Blk_n (Thn_n ?_))
        refine CW.seq ?_
        refine CW.region ?_
        refine WL.step rfl (Stp.res rfl rfl (Res.move rfl rfl) ?_)
        refine WL.step rfl (Stp.res rfl rfl (Res.move rfl rfl) ?_)
        refine WL.step rfl (Stp.res rfl rfl (Res.idxAN (k := r + 1) rfl rfl rfl Try.underlying36 sz29 (by omega) (by omega)) ?_)
        refine WL.step rfl (Stp.res rfl rfl (Res.loadNB (l := Aes.rk key (r + 1)) rfl rfl Try.underlying29 rfl sz29 (Aes.rk_length hk _) (fun j hj => hS.ocell (i := 0) rfl (by rw [bs_get (by rw [Aes.keysL_length]; omega), Aes.keysL_at key _ j (by omega) hj]))) ?_)
        refine WL.step rfl (Stp.callO 1 (args := [_, _]) rfl rfl rfl cal25 rfl rfl hS rfl (xor_ok _ _ _ _ _ hS.on _ (hS.get (i := 1) rfl) (hS.out (i := 1) rfl) (by simp) (Aes.rk_length hk _)) ?_)
        rintro _ w _ _ hS _ _ _ ⟨rfl, rfl, rfl⟩
        refine WL.nil (Thn_n ?_)
        refine CW.exit (Blk_x (Blk_n (Thn_n ?_)))
        refine CW.region ?_
        refine WL.step rfl (Stp.res rfl rfl (Res.move rfl rfl) ?_)
        refine WL.step rfl (Stp.res rfl rfl (Res.add rfl rfl rfl (by omega)) ?_)
        refine WL.step rfl (Stp.res rfl rfl (Res.assign rfl rfl) ?_)
        refine WL.nil (Thn_n ?_)
        refine ⟨r + 1, ⟨rfl, rfl, rfl, rfl, trivial⟩, ⟨by omega, ?_⟩, by omega⟩
        show St w0 _ M [(b7, .cells (bs (Aes.keysL key)) 36 (0, 0)), (b, .cells (bs (Aes.encRound key (r + 1) (Aes.encAt key blk r))) 54 (0, 0))]
        first | (rw [Aes.encRound, if_pos (by omega)]; exact hS) | (rw [Aes.encRound, if_neg (by omega)]; exact hS)
      · refine CW.skip (Thn_n ?_)
        refine CW.exit (Blk_y rfl (Thn_x (Blk_x (Thn_n ?_))))
        refine CW.seq ?_
        refine CW.region ?_
        refine WL.step rfl (Stp.res rfl rfl (Res.move rfl rfl) ?_)
        refine WL.step rfl (Stp.res rfl rfl (Res.move rfl rfl) ?_)
        refine WL.step rfl (Stp.res rfl rfl (Res.idxAN (k := r + 1) rfl rfl rfl Try.underlying36 sz29 (by omega) (by omega)) ?_)
        refine WL.step rfl (Stp.res rfl rfl (Res.loadNB (l := Aes.rk key (r + 1)) rfl rfl Try.underlying29 rfl sz29 (Aes.rk_length hk _) (fun j hj => hS.ocell (i := 0) rfl (by rw [bs_get (by rw [Aes.keysL_length]; omega), Aes.keysL_at key _ j (by omega) hj]))) ?_)
        refine WL.step rfl (Stp.callO 1 (args := [_, _]) rfl rfl rfl cal25 rfl rfl hS rfl (xor_ok _ _ _ _ _ hS.on _ (hS.get (i := 1) rfl) (hS.out (i := 1) rfl) (by simp) (Aes.rk_length hk _)) ?_)
        rintro _ w _ _ hS _ _ _ ⟨rfl, rfl, rfl⟩
        refine WL.nil (Thn_n ?_)
        refine CW.exit (Blk_x (Blk_n (Thn_n ?_)))
        refine CW.region ?_
        refine WL.step rfl (Stp.res rfl rfl (Res.move rfl rfl) ?_)
        refine WL.step rfl (Stp.res rfl rfl (Res.add rfl rfl rfl (by omega)) ?_)
        refine WL.step rfl (Stp.res rfl rfl (Res.assign rfl rfl) ?_)
        refine WL.nil (Thn_n ?_)
        refine ⟨r + 1, ⟨rfl, rfl, rfl, rfl, trivial⟩, ⟨by omega, ?_⟩, by omega⟩
        show St w0 _ M [(b7, .cells (bs (Aes.keysL key)) 36 (0, 0)), (b, .cells (bs (Aes.encRound key (r + 1) (Aes.encAt key blk r))) 54 (0, 0))]
        first | (rw [Aes.encRound, if_pos (by omega)]; exact hS) | (rw [Aes.encRound, if_neg (by omega)]; exact hS)
  · obtain rfl : r = 10 := by omega
    refine CW.exit (Thn_x (Thn_x (Blk_x (Thn_n ?_))))
    refine CW.seq ?_
    refine CW.region ?_
    refine WL.step rfl (Stp.res rfl rfl (Res.move rfl rfl) ?_)
    refine WL.step rfl (Stp.res rfl rfl (Res.nilCheck rfl rfl) ?_)
    refine WL.step rfl (Stp.res rfl rfl (Res.sliceA rfl rfl Try.underlying54 (by decide) sz5) ?_)
    refine WL.step rfl (Stp.res rfl rfl (Res.move rfl rfl) ?_)
    refine WL.step rfl (Stp.res rfl rfl (Res.assign rfl rfl) ?_)
    refine WL.step rfl (Stp.res rfl rfl (Res.assign rfl rfl) ?_)
    refine WL.nil (Thn_n ?_)
    refine CW.ret ?_
    have hF := hS.freeze (i := 1) rfl hbw
    exact fq_tmp2 rfl rfl rfl ⟨_, hF.1.drop (i := 0) rfl hb7, hF.2, Fresh.add _ hbw, _, rfl, Bs.of' (PH.add_self _ _ _) (Aes.enc_length _ _) (by omega)⟩

theorem decrypt_ok (kv bv : Value) (key blk : List UInt8) (w0 : World) (M : PH) (hM : On M w0) (hkey : Bs M kv key) (hblk : Bs M bv blk) (hk : key.length = 16) (hb16 : blk.length = 16) : Ok Try.prog 18 #[kv, bv] w0 M (fun M' r => ∃ s, r = .tuple #[s, .int .i64 0] ∧ Bs M' s (Aes.dec key blk)) := by
  have hS := hM.st
  refine enterB (l := [kv, bv]) 60 Try.func18 rfl Try.ntmps18 rfl ?_
  refine CW.seq ?_
  refine CW.region ?_
  refine WL.step rfl (Stp.res rfl rfl (Res.assign rfl rfl) ?_)
  refine WL.step rfl (Stp.res rfl rfl (Res.assign rfl rfl) ?_)
  refine WL.nil (Thn_n ?_)
  refine CW.seq ?_
  refine CW.region ?_
  refine WL.step rfl (Stp.res rfl rfl (Res.move rfl rfl) ?_)
  refine WL.step rfl (Stp.res rfl rfl (Res.move rfl rfl) ?_)
  refine WL.step rfl (Stp.callB (args := [_, _]) rfl rfl rfl cal24 rfl rfl hS (start_ok _ _ _ _ _ _ hS.on hkey hblk hk hb16) ?_)
  rintro _ w M' hS hle hfr hkp ⟨b, hMb, hbw, hMb', rfl⟩
  have hS := hS.take hMb' hle hMb
  refine WL.step rfl (Stp.res rfl rfl (Res.move rfl rfl) ?_)
  refine WL.step rfl (Stp.res rfl rfl (Res.extract (l := [_, _, _]) rfl rfl rfl) ?_)
  refine WL.step rfl (Stp.res rfl rfl (Res.extract (l := [_, _, _]) rfl rfl rfl) ?_)
  refine WL.step rfl (Stp.res rfl rfl (Res.extract (l := [_, _, _]) rfl rfl rfl) ?_)
  refine WL.step rfl (Stp.alloc (cs := bs (List.replicate 176 0)) rfl z36 rfl rfl rfl hS ?_)
  intro b7 w hb7 hS hkp hnw
  refine WL.step rfl (Stp.res rfl rfl (Res.assign rfl rfl) ?_)
  refine WL.step rfl (Stp.storeAllB 0 rfl rfl rfl sz36 rfl hS rfl ⟨List.length_replicate .., Aes.keysL_length _⟩ ?_)
  intro w hS hpt
  refine WL.step rfl (Stp.res rfl rfl (Res.assign rfl rfl) ?_)
  refine WL.nil (Thn_n ?_)
  refine CW.seq ?_
  refine CW.seq ?_
  refine CW.region ?_
  refine WL.step rfl (Stp.res rfl rfl (Res.move rfl rfl) ?_)
  refine WL.step rfl (Stp.res rfl rfl (Res.neq rfl rfl rfl) ?_)
  refine WL.nil (Thn_n ?_)
  refine CW.condF rfl ?_
  refine CW.skip (Thn_n ?_)
  refine CW.seq ?_
  refine CW.seq ?_
  refine CW.region ?_
  refine WL.step rfl (Stp.res rfl rfl (Res.assign rfl rfl) ?_)
  refine WL.nil (Thn_n ?_)
  refine CW.block ?_
  refine CW.loop (σ := Nat) (fun n => [(6, .pointer (some ⟨b, 0, none⟩)), (7, .pointer (some ⟨b7, 0, none⟩)), (8, .int .i64 0), (9, .int .i64 (10 - ↑n))])
    (fun n w' => n ≤ 10 ∧ St w0 w' M [(b7, .cells (bs (Aes.keysL key)) 36 (0, 0)), (b, .cells (bs (Aes.decAt key blk n)) 54 (0, 0))]) (fun n => 11 - n) 0 ⟨rfl, rfl, rfl, rfl, trivial⟩ ⟨by omega, hS⟩ ?_
  rintro n w1 ⟨hr, hS⟩
  refine CW.seq ?_
  refine CW.seq ?_
  refine CW.region ?_
  refine WL.step rfl (Stp.res rfl rfl (Res.move rfl rfl) ?_)
  refine WL.step rfl (Stp.res rfl rfl (Res.gtr rfl rfl rfl) ?_)
  refine WL.nil (Thn_n ?_)
  refine CW.ite rfl (fun h => ?_) (fun h => ?_)
  · obtain hlt : n ≤ 9 := by omega
    refine CW.skip (Thn_n ?_)
    refine CW.seq ?_
    refine CW.block ?_
    refine CW.seq ?_
    refine CW.region ?_
    refine WL.step rfl (Stp.res rfl rfl (Res.move rfl rfl) ?_)
    refine WL.step rfl (Stp.res rfl rfl (Res.move rfl rfl) ?_)
    refine WL.step rfl (Stp.res rfl rfl (Res.idxAN (k := 10 - n) rfl rfl rfl Try.underlying36 sz29 (by omega) (by omega)) ?_)
    refine WL.step rfl (Stp.res rfl rfl (Res.loadNB (l := Aes.rk key (10 - n)) rfl rfl Try.underlying29 rfl sz29 (Aes.rk_length hk _) (fun j hj => hS.ocell (i := 0) rfl (by rw [bs_get (by rw [Aes.keysL_length]; omega), Aes.keysL_at key _ j (by omega) hj]))) ?_)
    refine WL.step rfl (Stp.callO 1 (args := [_, _]) rfl rfl rfl cal25 rfl rfl hS rfl (xor_ok _ _ _ _ _ hS.on _ (hS.get (i := 1) rfl) (hS.out (i := 1) rfl) (by first | exact Aes.decAt_length key hb16 _ | simp) (Aes.rk_length hk _)) ?_)
    rintro _ w _ _ hS _ _ _ ⟨rfl, rfl, rfl⟩
    refine WL.nil (Thn_n ?_)
    refine CW.seq ?_
    refine CW.seq ?_
    refine CW.region ?_
    refine WL.step rfl (Stp.res rfl rfl (Res.move rfl rfl) ?_)
    refine WL.step rfl (Stp.res rfl rfl (Res.lss rfl rfl rfl) ?_)
    refine WL.nil (Thn_n ?_)
    refine CW.ite rfl (fun h3 => ?_) (fun h3 => ?_)
    · refine CW.region ?_
      refine WL.step rfl (Stp.res rfl rfl (Res.move rfl rfl) ?_)
      refine WL.step rfl (Stp.res rfl rfl (Res.build (vals := [(0, byte 14), (1, byte 11), (2, byte 13), (3, byte 9)]) (cs := bs [14, 11, 13, 9]) rfl rfl (fun _ => by kernel_rfl)) ?_)
      refine WL.step rfl (Stp.callO 1 (args := [_, _]) rfl rfl rfl cal27 rfl rfl hS rfl (mix_ok _ [14, 11, 13, 9] _ _ _ hS.on _ (hS.get (i := 1) rfl) (hS.out (i := 1) rfl) (by simp) rfl) ?_)
      rintro _ w _ _ hS _ _ _ ⟨rfl, rfl, rfl⟩
      refine WL.nil (Thn_n ?_)
      refine CW.seq ?_
      obtain ⟨X, hX, hXl, hS⟩ : ∃ X : List UInt8, Aes.decStep key (10 - n) (Aes.decAt key blk n) = Aes.backB (Aes.turnB 3 X) ∧ X.length = 16 ∧ St w0 w M [(b7, .cells (bs (Aes.keysL key)) 36 (0, 0)), (b, .cells (bs (X)) 54 (0, 0))] := by
        first | exact ⟨_, by rw [Aes.decStep, if_pos (by omega)], by simp, hS⟩ | exact ⟨_, by rw [Aes.decStep, if_neg (by omega)], by simp, hS⟩
      refine CW.region ?_
      refine WL.step rfl (Stp.res rfl rfl (Res.move rfl rfl) ?_)
      refine WL.step rfl (Stp.callO 1 (args := [_, _]) rfl rfl rfl cal26 rfl rfl hS rfl (turn3_ok _ _ _ _ hS.on _ (hS.get (i := 1) rfl) (hS.out (i := 1) rfl) hXl) ?_)
      rintro _ w _ _ hS _ _ _ ⟨rfl, rfl, rfl⟩
      refine WL.nil (Thn_n ?_)
      refine CW.seq ?_
      refine CW.region ?_
      refine WL.step rfl (Stp.res rfl rfl (Res.move rfl rfl) ?_)
      refine WL.step rfl (Stp.res rfl rfl (Res.move rfl rfl) ?_)
      refine WL.nil (Thn_n ?_)
      refine CW.block ?_
      refine CW.loop (σ := Nat) (fun k => [(6, .pointer (some ⟨b, 0, none⟩)), (7, .pointer (some ⟨b7, 0, none⟩)), (8, .int .i64 0), (9, .int .i64 (10 - ↑n)), (38, .pointer (some ⟨b, 0, none⟩)), (39, .int .i64 k)])
        (fun k w' => k ≤ 16 ∧ St w0 w' M [(b7, .cells (bs (Aes.keysL key)) 36 (0, 0)), (b, .cells (bs (Aes.upTo k (fun j => Aes.back ((Aes.turnB 3 X).getD j 0)) (Aes.turnB 3 X))) 54 (0, 0))]) (fun k => 16 - k) 0 ⟨rfl, rfl, rfl, rfl, rfl, rfl, trivial⟩ ⟨by omega, by rw [Aes.upTo_zero]; exact hS⟩ ?_
      rintro k w2 ⟨hj, hS⟩
      refine CW.seq ?_
      refine CW.region ?_
      refine WL.step rfl (Stp.res rfl rfl (Res.lss rfl rfl rfl) ?_)
      refine WL.nil (Thn_n ?_)
      refine CW.seq ?_
      refine CW.ite rfl (fun h2 => ?_) (fun h2 => ?_)
      · obtain hlj : k < 16 := by omega
        refine CW.skip (Thn_n ?_)
        refine CW.seq ?_
        refine CW.block ?_
        refine CW.seq ?_
        have hS := hS.drew
        refine CW.still mixed (by kernel_rfl) ?_
        refine SL.step rfl rfl rfl (Res.move rfl rfl) ?_
        refine SL.step rfl rfl rfl (Res.nilCheck rfl rfl) ?_
        first | refine SL.step rfl rfl rfl (Res.idxA0 rfl rfl rfl Try.underlying54 sz5 (by first | exact Int.toNat_natCast _ | rfl) (by omega)) ?_ | refine SL.step rfl rfl rfl (Res.idxA1 rfl rfl rfl Try.underlying54 sz5 (by first | exact Int.toNat_natCast _ | rfl) (by omega)) ?_
        refine SL.step rfl rfl rfl (Res.load1 rfl rfl Try.underlying5 rfl (hS.ocell (i := 1) rfl (bs_get (by rw [Aes.upTo_length, Aes.turnB_length]; omega)))) ?_
        refine SL.step rfl rfl rfl (Res.assign rfl rfl) ?_
        refine SL.step rfl rfl rfl (Res.assign rfl rfl) ?_
        refine SL.nil (Thn_n ?_)
        have hS := hS.drew
        have hK0 : True := trivial
        refine CW.held (fun _ => True) mixed ?_
        refine AL.take 0 rfl (by kernel_rfl) (by kernel_rfl) (by kernel_rfl) rfl rfl rfl hK0 (fun w hK => Res.move rfl rfl) ?_
        refine AL.take 1 rfl (by kernel_rfl) (by kernel_rfl) (by kernel_rfl) rfl rfl rfl hK0 (fun w hK => Res.move rfl rfl) ?_
        refine AL.take 2 rfl (by kernel_rfl) (by kernel_rfl) (by kernel_rfl) rfl rfl rfl hK0 (fun w hK => Res.move rfl rfl) ?_
        refine AL.take 4 rfl (by kernel_rfl) (by kernel_rfl) (by kernel_rfl) rfl rfl rfl hK0 (fun w hK => Res.nilCheck rfl rfl) ?_
        refine AL.one 3 rfl (by kernel_rfl) rfl (Stp.callB (args := [_]) rfl rfl rfl cal31 rfl rfl hS (back_ok _ _ _ hS.on) ?_)
        rintro _ w _ hS _ _ hkp ⟨rfl, rfl⟩
        have hK0 : True := trivial
        refine ⟨hK0, ?_⟩
        first | refine AL.take 5 rfl (by kernel_rfl) (by kernel_rfl) (by kernel_rfl) rfl rfl rfl hK0 (fun w hK => Res.idxA0 rfl rfl rfl Try.underlying54 sz5 (by first | exact Int.toNat_natCast _ | rfl) (by omega)) ?_ | refine AL.take 5 rfl (by kernel_rfl) (by kernel_rfl) (by kernel_rfl) rfl rfl rfl hK0 (fun w hK => Res.idxA1 rfl rfl rfl Try.underlying54 sz5 (by first | exact Int.toNat_natCast _ | rfl) (by omega)) ?_
        refine AL.one 6 rfl (by kernel_rfl) rfl (Stp.storeB 1 rfl rfl rfl sz5 rfl hS rfl (by rw [Aes.upTo_length, Aes.turnB_length]; omega) ?_)
        intro w hS hpt
        have hK0 : True := trivial
        refine ⟨hK0, ?_⟩
        refine AL.done (by kernel_rfl) (Blk_n (Thn_n ?_))
        refine CW.region ?_
        refine WL.step rfl (Stp.res rfl rfl (Res.add rfl rfl rfl (by omega)) ?_)
        refine WL.step rfl (Stp.res rfl rfl (Res.move rfl rfl) ?_)
        refine WL.nil (Thn_n ?_)
        refine ⟨k + 1, ⟨rfl, rfl, rfl, rfl, rfl, rfl, trivial⟩, ⟨by omega, ?_⟩, by omega⟩
        rw [Aes.upTo_getD _ _ _ _ (by rw [Aes.turnB_length]; omega), if_neg (by omega)] at hS
        rw [← Aes.upTo_set]
        exact hS
      · obtain rfl : k = 16 := by omega
        refine CW.exit (Thn_x (Thn_x (Blk_x (Blk_n (Thn_n ?_)))))
        refine CW.region ?_
        refine WL.step rfl (Stp.res rfl rfl (Res.move rfl rfl) ?_)
        refine WL.step rfl (Stp.res rfl rfl (Res.sub rfl rfl rfl (by omega)) ?_)
        refine WL.step rfl (Stp.res rfl rfl (Res.assign rfl rfl) ?_)
        refine WL.nil (Thn_n ?_)
        refine ⟨n + 1, ⟨rfl, rfl, rfl, i64c (by omega), trivial⟩, ⟨by omega, ?_⟩, by omega⟩
        rw [Aes.upTo_all _ _ 16 (Aes.turnB_length ..)] at hS
        show St w0 _ M [(b7, .cells (bs (Aes.keysL key)) 36 (0, 0)), (b, .cells (bs (Aes.decStep key (10 - n) (Aes.decAt key blk n))) 54 (0, 0))]
        rw [hX]
        exact hS
    · refine CW.skip (Thn_n ?_)
      refine CW.seq ?_
      obtain ⟨X, hX, hXl, hS⟩ : ∃ X : List UInt8, Aes.decStep key (10 - n) (Aes.decAt key blk n) = Aes.backB (Aes.turnB 3 X) ∧ X.length = 16 ∧ St w0 w M [(b7, .cells (bs (Aes.keysL key)) 36 (0, 0)), (b, .cells (bs (X)) 54 (0, 0))] := by
        first | exact ⟨_, by rw [Aes.decStep, if_pos (by omega)], by simp, hS⟩ | exact ⟨_, by rw [Aes.decStep, if_neg (by omega)], by simp, hS⟩
      refine CW.region ?_
      refine WL.step rfl (Stp.res rfl rfl (Res.move rfl rfl) ?_)
      refine WL.step rfl (Stp.callO 1 (args := [_, _]) rfl rfl rfl cal26 rfl rfl hS rfl (turn3_ok _ _ _ _ hS.on _ (hS.get (i := 1) rfl) (hS.out (i := 1) rfl) hXl) ?_)
      rintro _ w _ _ hS _ _ _ ⟨rfl, rfl, rfl⟩
      refine WL.nil (Thn_n ?_)
      refine CW.seq ?_
      refine CW.region ?_
      refine WL.step rfl (Stp.res rfl rfl (Res.move rfl rfl) ?_)
      refine WL.step rfl (Stp.res rfl rfl (Res.move rfl rfl) ?_)
      refine WL.nil (Thn_n ?_)
      refine CW.block ?_
      refine CW.loop (σ := Nat) (fun k => [(6, .pointer (some ⟨b, 0, none⟩)), (7, .pointer (some ⟨b7, 0, none⟩)), (8, .int .i64 0), (9, .int .i64 (10 - ↑n)), (38, .pointer (some ⟨b, 0, none⟩)), (39, .int .i64 k)])
        (fun k w' => k ≤ 16 ∧ St w0 w' M [(b7, .cells (bs (Aes.keysL key)) 36 (0, 0)), (b, .cells (bs (Aes.upTo k (fun j => Aes.back ((Aes.turnB 3 X).getD j 0)) (Aes.turnB 3 X))) 54 (0, 0))]) (fun k => 16 - k) 0 ⟨rfl, rfl, rfl, rfl, rfl, rfl, trivial⟩ ⟨by omega, by rw [Aes.upTo_zero]; exact hS⟩ ?_
      rintro k w2 ⟨hj, hS⟩
      refine CW.seq ?_
      refine CW.region ?_
      refine WL.step rfl (Stp.res rfl rfl (Res.lss rfl rfl rfl) ?_)
      refine WL.nil (Thn_n ?_)
      refine CW.seq ?_
      refine CW.ite rfl (fun h2 => ?_) (fun h2 => ?_)
      · obtain hlj : k < 16 := by omega
        refine CW.skip (Thn_n ?_)
        refine CW.seq ?_
        refine CW.block ?_
        refine CW.seq ?_
        have hS := hS.drew
        refine CW.still mixed (by kernel_rfl) ?_
        refine SL.step rfl rfl rfl (Res.move rfl rfl) ?_
        refine SL.step rfl rfl rfl (Res.nilCheck rfl rfl) ?_
        first | refine SL.step rfl rfl rfl (Res.idxA0 rfl rfl rfl Try.underlying54 sz5 (by first | exact Int.toNat_natCast _ | rfl) (by omega)) ?_ | refine SL.step rfl rfl rfl (Res.idxA1 rfl rfl rfl Try.underlying54 sz5 (by first | exact Int.toNat_natCast _ | rfl) (by omega)) ?_
        refine SL.step rfl rfl rfl (Res.load1 rfl rfl Try.underlying5 rfl (hS.ocell (i := 1) rfl (bs_get (by rw [Aes.upTo_length, Aes.turnB_length]; omega)))) ?_
        refine SL.step rfl rfl rfl (Res.assign rfl rfl) ?_
        refine SL.step rfl rfl rfl (Res.assign rfl rfl) ?_
        refine SL.nil (Thn_n ?_)
        have hS := hS.drew
        have hK0 : True := trivial
        refine CW.held (fun _ => True) mixed ?_
        refine AL.take 0 rfl (by kernel_rfl) (by kernel_rfl) (by kernel_rfl) rfl rfl rfl hK0 (fun w hK => Res.move rfl rfl) ?_
        refine AL.take 1 rfl (by kernel_rfl) (by kernel_rfl) (by kernel_rfl) rfl rfl rfl hK0 (fun w hK => Res.move rfl rfl) ?_
        refine AL.take 2 rfl (by kernel_rfl) (by kernel_rfl) (by kernel_rfl) rfl rfl rfl hK0 (fun w hK => Res.move rfl rfl) ?_
        refine AL.take 4 rfl (by kernel_rfl) (by kernel_rfl) (by kernel_rfl) rfl rfl rfl hK0 (fun w hK => Res.nilCheck rfl rfl) ?_
        refine AL.one 3 rfl (by kernel_rfl) rfl (Stp.callB (args := [_]) rfl rfl rfl cal31 rfl rfl hS (back_ok _ _ _ hS.on) ?_)
        rintro _ w _ hS _ _ hkp ⟨rfl, rfl⟩
        have hK0 : True := trivial
        refine ⟨hK0, ?_⟩
        first | refine AL.take 5 rfl (by kernel_rfl) (by kernel_rfl) (by kernel_rfl) rfl rfl rfl hK0 (fun w hK => Res.idxA0 rfl rfl rfl Try.underlying54 sz5 (by first | exact Int.toNat_natCast _ | rfl) (by omega)) ?_ | refine AL.take 5 rfl (by kernel_rfl) (by kernel_rfl) (by kernel_rfl) rfl rfl rfl hK0 (fun w hK => Res.idxA1 rfl rfl rfl Try.underlying54 sz5 (by first | exact Int.toNat_natCast _ | rfl) (by omega)) ?_
        refine AL.one 6 rfl (by kernel_rfl) rfl (Stp.storeB 1 rfl rfl rfl sz5 rfl hS rfl (by rw [Aes.upTo_length, Aes.turnB_length]; omega) ?_)
        intro w hS hpt
        have hK0 : True := trivial
        refine ⟨hK0, ?_⟩
        refine AL.done (by kernel_rfl) (Blk_n (Thn_n ?_))
        refine CW.region ?_
        refine WL.step rfl (Stp.res rfl rfl (Res.add rfl rfl rfl (by omega)) ?_)
        refine WL.step rfl (Stp.res rfl rfl (Res.move rfl rfl) ?_)
        refine WL.nil (Thn_n ?_)
        refine ⟨k + 1, ⟨rfl, rfl, rfl, rfl, rfl, rfl, trivial⟩, ⟨by omega, ?_⟩, by omega⟩
        rw [Aes.upTo_getD _ _ _ _ (by rw [Aes.turnB_length]; omega), if_neg (by omega)] at hS
        rw [← Aes.upTo_set]
        exact hS
      · obtain rfl : k = 16 := by omega
        refine CW.exit (Thn_x (Thn_x (Blk_x (Blk_n (Thn_n ?_)))))
        refine CW.region ?_
        refine WL.step rfl (Stp.res rfl rfl (Res.move rfl rfl) ?_)
        refine WL.step rfl (Stp.res rfl rfl (Res.sub rfl rfl rfl (by omega)) ?_)
        refine WL.step rfl (Stp.res rfl rfl (Res.assign rfl rfl) ?_)
        refine WL.nil (Thn_n ?_)
        refine ⟨n + 1, ⟨rfl, rfl, rfl, i64c (by omega), trivial⟩, ⟨by omega, ?_⟩, by omega⟩
        rw [Aes.upTo_all _ _ 16 (Aes.turnB_length ..)] at hS
        show St w0 _ M [(b7, .cells (bs (Aes.keysL key)) 36 (0, 0)), (b, .cells (bs (Aes.decStep key (10 - n) (Aes.decAt key blk n))) 54 (0, 0))]
        rw [hX]
        exact hS
  · obtain rfl : n = 10 := by omega
    refine CW.exit (Thn_x (Thn_x (Blk_x (Thn_n ?_))))
    refine CW.seq ?_
    refine CW.region ?_
    refine WL.step rfl (Stp.res rfl rfl (Res.move rfl rfl) ?_)
    refine WL.step rfl (Stp.res rfl rfl (Res.idxAN (k := 0) rfl rfl rfl Try.underlying36 sz29 rfl (by omega)) ?_)
    refine WL.step rfl (Stp.res rfl rfl (Res.loadNB (l := Aes.rk key (0)) rfl rfl Try.underlying29 rfl sz29 (Aes.rk_length hk _) (fun j hj => hS.ocell (i := 0) rfl (by rw [bs_get (by rw [Aes.keysL_length]; omega), Aes.keysL_at key _ j (by omega) hj]))) ?_)
    refine WL.step rfl (Stp.callO 1 (args := [_, _]) rfl rfl rfl cal25 rfl rfl hS rfl (xor_ok _ _ _ _ _ hS.on _ (hS.get (i := 1) rfl) (hS.out (i := 1) rfl) (by first | exact Aes.decAt_length key hb16 _ | simp) (Aes.rk_length hk _)) ?_)
    rintro _ w _ _ hS _ _ _ ⟨rfl, rfl, rfl⟩
    refine WL.nil (Thn_n ?_)
    refine CW.seq ?_
    refine CW.region ?_
    refine WL.step rfl (Stp.res rfl rfl (Res.move rfl rfl) ?_)
    refine WL.step rfl (Stp.res rfl rfl (Res.nilCheck rfl rfl) ?_)
    refine WL.step rfl (Stp.res rfl rfl (Res.sliceA rfl rfl Try.underlying54 (by decide) sz5) ?_)
    refine WL.step rfl (Stp.res rfl rfl (Res.move rfl rfl) ?_)
    refine WL.step rfl (Stp.res rfl rfl (Res.assign rfl rfl) ?_)
    refine WL.step rfl (Stp.res rfl rfl (Res.assign rfl rfl) ?_)
    refine WL.nil (Thn_n ?_)
    refine CW.ret ?_
    have hF := hS.freeze (i := 1) rfl hbw
    exact fq_tmp2 rfl rfl rfl ⟨_, hF.1.drop (i := 0) rfl hb7, hF.2, Fresh.add _ hbw, _, rfl, Bs.of' (PH.add_self _ _ _) (Aes.dec_length _ _) (by omega)⟩
end Go.Proofs.Ytanogodfnfkkbaa
