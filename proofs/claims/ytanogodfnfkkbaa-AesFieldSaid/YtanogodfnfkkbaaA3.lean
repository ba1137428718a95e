/- Own text of this seat (A3): lemmas on the way to the statement; no condition of its own. -/
import Derived.Test.YtanogodfnfkkbaaA2
set_option linter.unusedVariables false
namespace Go.Proofs.Ytanogodfnfkkbaa
open Go Go.E
theorem keys_bad (v : Value) (key : List UInt8) (w0 : World) (M : PH) (hM : On M w0) (hkey : Bs M v key) (hk : key.length ≠ 16) : Ok Try.prog 20 #[v] w0 M (fun M' r => M = M' ∧ r = .tuple #[.agg (bs (List.replicate 176 0)), .int .i64 2]) := by
  have hS := hM.st
  obtain ⟨kv_a, kv_c, rfl, kv_1, kv_2, kv_3, kv_4⟩ := hkey
  refine enterB (l := [.slice kv_a key.length kv_c]) 72 Try.func20 rfl Try.ntmps20 rfl ?_
  refine CW.seq ?_
  refine CW.region ?_
  refine WL.step rfl (Stp.alloc (cs := bs (List.replicate 176 0)) rfl z36 rfl rfl rfl hS ?_)
  intro b2 w hb2 hS hkp hnw
  refine WL.step rfl (Stp.res rfl rfl (Res.assign rfl rfl) ?_)
  refine WL.nil (Thn_n ?_)
  refine CW.seq ?_
  refine CW.region ?_
  refine WL.step rfl (Stp.alloc (cs := bs (List.replicate 176 0)) rfl z36 rfl rfl rfl hS ?_)
  intro b4 w hb4 hS hkp hnw
  refine WL.nil (Thn_n ?_)
  refine CW.seq ?_
  refine CW.seq ?_
  refine CW.region ?_
  refine WL.step rfl (Stp.res rfl rfl (Res.move rfl rfl) ?_)
  refine WL.step rfl (Stp.res rfl rfl (Res.len rfl rfl rfl rfl Try.underlying26) ?_)
  refine WL.step rfl (Stp.res rfl rfl (Res.neq rfl rfl rfl) ?_)
  refine WL.nil (Thn_n ?_)
  refine CW.iteT rfl (by omega) ?_
  refine CW.seq ?_
  refine CW.region ?_
  refine WL.step rfl (Stp.res rfl rfl (Res.loadAll rfl rfl Try.underlying36 rfl (by rw [size_bs, List.length_replicate]; exact sz36) (hS.get (i := 0) rfl)) ?_)
  refine WL.step rfl (Stp.storeAllB 1 rfl rfl rfl sz36 rfl hS rfl ⟨List.length_replicate .., List.length_replicate ..⟩ ?_)
  intro w hS hpt
  refine WL.step rfl (Stp.res rfl rfl (Res.assign rfl rfl) ?_)
  refine WL.nil (Thn_n ?_)
  refine CW.ret (Thn_r ?_)
  exact fq_cell_tmp rfl rfl rfl (hS.get (i := 1) rfl) Try.underlying36 rfl (by rw [size_bs, List.length_replicate]; exact sz36) ⟨M, (hS.drop (i := 0) rfl hb4).drop (i := 0) rfl hb2, PH.le.refl _, Fresh.refl _ _, rfl, rfl⟩

theorem keys_ok (v : Value) (key : List UInt8) (w0 : World) (M : PH) (hM : On M w0) (hkey : Bs M v key) (hk : key.length = 16) : Ok Try.prog 20 #[v] w0 M (fun M' r => M = M' ∧ r = .tuple #[.agg (bs (Aes.keysL key)), .int .i64 0]) := by
  have hS := hM.st
  obtain ⟨kb, ko, kc, rfl, hkc, hkm, hkcell⟩ := hkey.at (by omega)
  refine enterB (l := [.slice (some ⟨kb, ko, none⟩) key.length kc]) 72 Try.func20 rfl Try.ntmps20 rfl ?_
  refine CW.seq ?_
  refine CW.region ?_
  refine WL.step rfl (Stp.alloc (cs := bs (List.replicate 176 0)) rfl z36 rfl rfl rfl hS ?_)
  intro b2 w hb2 hS hkp hnw
  refine WL.step rfl (Stp.res rfl rfl (Res.assign rfl rfl) ?_)
  refine WL.nil (Thn_n ?_)
  refine CW.seq ?_
  refine CW.region ?_
  refine WL.step rfl (Stp.alloc (cs := bs (List.replicate 176 0)) rfl z36 rfl rfl rfl hS ?_)
  intro b4 w hb4 hS hkp hnw
  refine WL.nil (Thn_n ?_)
  refine CW.seq ?_
  refine CW.seq ?_
  refine CW.region ?_
  refine WL.step rfl (Stp.res rfl rfl (Res.move rfl rfl) ?_)
  refine WL.step rfl (Stp.res rfl rfl (Res.len rfl rfl rfl rfl Try.underlying26) ?_)
  refine WL.step rfl (Stp.res rfl rfl (Res.neq rfl rfl rfl) ?_)
  refine WL.nil (Thn_n ?_)
  refine CW.iteF rfl (by omega) ?_
  refine CW.skip (Thn_n ?_)
  refine CW.seq ?_
  refine CW.region ?_
  refine WL.step rfl (Stp.res rfl rfl (Res.move rfl rfl) ?_)
  refine WL.step rfl (Stp.res rfl rfl (Res.s2a rfl rfl Try.underlying29 (by omega)) ?_)
  refine WL.step rfl (Stp.res rfl rfl (Res.loadNB (l := key) rfl rfl Try.underlying29 rfl sz29 hk (fun j hj => hS.cell (hkcell j (by omega)))) ?_)
  refine WL.step rfl (Stp.res rfl rfl (Res.idxAN rfl rfl rfl Try.underlying36 sz29 (show (0 : Int).toNat = 0 from rfl) (by omega)) ?_)
  refine WL.step rfl (Stp.storeNB 0 rfl rfl rfl sz29 rfl hS rfl hk (by rw [List.length_replicate]; omega) ?_)
  intro w hS hpt
  refine WL.nil (Thn_n ?_)
  refine CW.seq ?_
  refine CW.region ?_
  refine WL.step rfl (Stp.res rfl rfl (Res.assign (v := byte 1) rfl rfl) ?_)
  refine WL.nil (Thn_n ?_)
  refine CW.seq ?_
  refine CW.seq ?_
  refine CW.region ?_
  refine WL.step rfl (Stp.res rfl rfl (Res.assign rfl rfl) ?_)
  refine WL.nil (Thn_n ?_)
  refine CW.block ?_
  have hS : St w0 w M [(b4, .cells (bs (Aes.upTo (16 * (0 + 1)) (Aes.kf key) (List.replicate 176 0))) 36 (0, 0)), (b2, .cells (bs (List.replicate 176 0)) 36 (0, 0))] := by rw [← Aes.key0 key hk]; exact hS
  refine CW.loop (σ := Nat) (fun r => [(2, .pointer (some ⟨b2, 0, none⟩)), (3, .int .i64 0), (4, .pointer (some ⟨b4, 0, none⟩)), (5, byte (Aes.pow r)), (6, .int .i64 (↑r + 1))])
    (fun r w' => r ≤ 10 ∧ St w0 w' M [(b4, .cells (bs (Aes.upTo (16 * (r + 1)) (Aes.kf key) (List.replicate 176 0))) 36 (0, 0)), (b2, .cells (bs (List.replicate 176 0)) 36 (0, 0))]) (fun r => 11 - r) 0 ⟨rfl, rfl, rfl, rfl, rfl, trivial⟩ ⟨by omega, hS⟩ ?_
  rintro r w1 ⟨hr, hS⟩
  refine CW.seq ?_
  refine CW.seq ?_
  refine CW.region ?_
  refine WL.step rfl (Stp.res rfl rfl (Res.move rfl rfl) ?_)
  refine WL.step rfl (Stp.res rfl rfl (Res.leq rfl rfl rfl) ?_)
  refine WL.nil (Thn_n ?_)
  refine CW.ite rfl (fun h => ?_) (fun h => ?_)
  · obtain hlt : r ≤ 9 := by omega
    refine CW.skip (Thn_n ?_)
    refine CW.seq ?_
    refine CW.block ?_
    refine CW.seq ?_
    have hS := hS.drew
    have hK0 := Kept.refl w1.drew
    have hc9 : ∀ j, j < 16 → w1.drew.cell? ⟨b4, r * 16 + j, none⟩ = some (byte ((Aes.rk key r).getD j 0)) := fun j hj => by
      rw [← Aes.upTo_kf key r j (by omega) hj]
      exact hS.ocell (i := 0) rfl (bs_get (by rw [Aes.upTo_length, List.length_replicate]; omega))
    refine CW.held (Kept w1.drew) mixed ?_
    refine AL.take 0 rfl (by kernel_rfl) (by kernel_rfl) (by kernel_rfl) rfl rfl rfl hK0 (fun w hK => Res.move rfl rfl) ?_
    refine AL.take 1 rfl (by kernel_rfl) (by kernel_rfl) (by kernel_rfl) rfl rfl rfl hK0 (fun w hK => Res.sub rfl rfl rfl (by omega)) ?_
    refine AL.take 2 rfl (by kernel_rfl) (by kernel_rfl) (by kernel_rfl) rfl rfl rfl hK0 (fun w hK => Res.idxAN (k := r) rfl rfl rfl Try.underlying36 sz29 (by omega) (by omega)) ?_
    refine AL.take 3 rfl (by kernel_rfl) (by kernel_rfl) (by kernel_rfl) rfl rfl rfl hK0 (fun w hK => Res.loadNB (l := Aes.rk key r) rfl rfl Try.underlying29 rfl sz29 (Aes.rk_length hk r) (fun j hj => hK.cell (hc9 j hj))) ?_
    refine AL.take 4 rfl (by kernel_rfl) (by kernel_rfl) (by kernel_rfl) rfl rfl rfl hK0 (fun w hK => Res.move rfl rfl) ?_
    refine AL.take 5 rfl (by kernel_rfl) (by kernel_rfl) (by kernel_rfl) rfl rfl rfl hK0 (fun w hK => Res.idxAN (k := r + 1) rfl rfl rfl Try.underlying36 sz29 (by omega) (by omega)) ?_
    refine AL.one 6 rfl (by kernel_rfl) rfl (Stp.alloc (cs := bs (List.replicate 16 0)) rfl z29 rfl rfl rfl hS ?_)
    intro b7 w hb7 hS hkp hnw
    have hn7 := hK0.fresh hnw
    have hK0 := hK0.trans hkp
    refine ⟨hK0, ?_⟩
    refine AL.one 7 rfl (by kernel_rfl) rfl (Stp.storeAllB 0 rfl rfl rfl sz29 rfl hS rfl ⟨List.length_replicate .., Aes.rk_length hk r⟩ ?_)
    intro w hS hpt
    have hK0 := hK0.put hpt (by assumption)
    refine ⟨hK0, ?_⟩
    refine AL.take 8 rfl (by kernel_rfl) (by kernel_rfl) (by kernel_rfl) rfl rfl rfl hK0 (fun w hK => Res.assign rfl rfl) ?_
    refine AL.done (by kernel_rfl) (Thn_n ?_)
    refine CW.seq ?_
    have hS := hS.drew
    refine CW.post (fun L' w' => ∃ b9, w0.heap.size ≤ b9 ∧ Sub [(2, .pointer (some ⟨b2, 0, none⟩)), (3, .int .i64 0), (4, .pointer (some ⟨b4, 0, none⟩)), (5, byte (Aes.pow r)), (6, .int .i64 (↑r + 1)), (7, .pointer (some ⟨b7, 0, none⟩)), (8, .pointer (some ⟨b4, (r + 1) * 16, none⟩)), (9, .pointer (some ⟨b9, 0, none⟩))] L' ∧ St w0 w' M [(b9, .cells (bs (Aes.last0 (Aes.rk key r) (Aes.pow r))) 49 (0, 0)), (b7, .cells (bs (Aes.rk key r)) 29 (0, 0)), (b4, .cells (bs (Aes.upTo (16 * (r + 1)) (Aes.kf key) (List.replicate 176 0))) 36 (0, 0)), (b2, .cells (bs (List.replicate 176 0)) 36 (0, 0))]) ?_ ?_
    · have hK0 := Kept.refl w.drew
      have hSs := hS
      refine CW.held (Kept w.drew) mixed ?_
      first | refine AL.take 1 rfl (by kernel_rfl) (by kernel_rfl) (by kernel_rfl) rfl rfl rfl hK0 (fun w hK => Res.idxA0 rfl rfl rfl Try.underlying29 sz5 (show (13 : Int).toNat = 13 from rfl) (by omega)) ?_ | refine AL.take 1 rfl (by kernel_rfl) (by kernel_rfl) (by kernel_rfl) rfl rfl rfl hK0 (fun w hK => Res.idxA1 rfl rfl rfl Try.underlying29 sz5 (show (13 : Int).toNat = 13 from rfl) (by omega)) ?_
      refine AL.take 2 rfl (by kernel_rfl) (by kernel_rfl) (by kernel_rfl) rfl rfl rfl hK0 (fun w hK => Res.load1 rfl rfl Try.underlying5 rfl (hK.cell (hSs.ocell (i := 0) rfl (bs_get (by rw [Aes.rk_length hk]; omega))))) ?_
      refine AL.take 4 rfl (by kernel_rfl) (by kernel_rfl) (by kernel_rfl) rfl rfl rfl hK0 (fun w hK => Res.move rfl rfl) ?_
      first | refine AL.take 7 rfl (by kernel_rfl) (by kernel_rfl) (by kernel_rfl) rfl rfl rfl hK0 (fun w hK => Res.idxA0 rfl rfl rfl Try.underlying29 sz5 (show (14 : Int).toNat = 14 from rfl) (by omega)) ?_ | refine AL.take 7 rfl (by kernel_rfl) (by kernel_rfl) (by kernel_rfl) rfl rfl rfl hK0 (fun w hK => Res.idxA1 rfl rfl rfl Try.underlying29 sz5 (show (14 : Int).toNat = 14 from rfl) (by omega)) ?_
      refine AL.take 8 rfl (by kernel_rfl) (by kernel_rfl) (by kernel_rfl) rfl rfl rfl hK0 (fun w hK => Res.load1 rfl rfl Try.underlying5 rfl (hK.cell (hSs.ocell (i := 0) rfl (bs_get (by rw [Aes.rk_length hk]; omega))))) ?_
      first | refine AL.take 11 rfl (by kernel_rfl) (by kernel_rfl) (by kernel_rfl) rfl rfl rfl hK0 (fun w hK => Res.idxA0 rfl rfl rfl Try.underlying29 sz5 (show (15 : Int).toNat = 15 from rfl) (by omega)) ?_ | refine AL.take 11 rfl (by kernel_rfl) (by kernel_rfl) (by kernel_rfl) rfl rfl rfl hK0 (fun w hK => Res.idxA1 rfl rfl rfl Try.underlying29 sz5 (show (15 : Int).toNat = 15 from rfl) (by omega)) ?_
      refine AL.take 12 rfl (by kernel_rfl) (by kernel_rfl) (by kernel_rfl) rfl rfl rfl hK0 (fun w hK => Res.load1 rfl rfl Try.underlying5 rfl (hK.cell (hSs.ocell (i := 0) rfl (bs_get (by rw [Aes.rk_length hk]; omega))))) ?_
      first | refine AL.take 15 rfl (by kernel_rfl) (by kernel_rfl) (by kernel_rfl) rfl rfl rfl hK0 (fun w hK => Res.idxA0 rfl rfl rfl Try.underlying29 sz5 (show (12 : Int).toNat = 12 from rfl) (by omega)) ?_ | refine AL.take 15 rfl (by kernel_rfl) (by kernel_rfl) (by kernel_rfl) rfl rfl rfl hK0 (fun w hK => Res.idxA1 rfl rfl rfl Try.underlying29 sz5 (show (12 : Int).toNat = 12 from rfl) (by omega)) ?_
      refine AL.take 16 rfl (by kernel_rfl) (by kernel_rfl) (by kernel_rfl) rfl rfl rfl hK0 (fun w hK => Res.load1 rfl rfl Try.underlying5 rfl (hK.cell (hSs.ocell (i := 0) rfl (bs_get (by rw [Aes.rk_length hk]; omega))))) ?_
      refine AL.two 0 19 rfl rfl (by kernel_rfl) rfl rfl ?_ ?_
      · refine Stp.callB (args := []) rfl rfl rfl cal23 rfl rfl hS (box_ok _ _ hS.on) ?_
        rintro _ w _ hS _ _ hkp ⟨rfl, rfl⟩
        have hK0 := hK0.trans hkp
        refine ⟨hK0, ?_⟩
        refine AL.take 3 rfl (by kernel_rfl) (by kernel_rfl) (by kernel_rfl) rfl rfl rfl hK0 (fun w hK => Res.index1 rfl rfl rfl Try.underlying41 sz5 Try.underlying5 rfl (Int.toNat_natCast _) ⟨Int.natCast_nonneg _, Int.ofNat_lt.2 (UInt8.toNat_lt _)⟩ (bs_get (by rw [Aes.boxL_len]; exact UInt8.toNat_lt _))) ?_
        refine AL.take 5 rfl (by kernel_rfl) (by kernel_rfl) (by kernel_rfl) rfl rfl rfl hK0 (fun w hK => Res.xorB _ rfl rfl rfl) ?_
        refine AL.two 6 19 rfl rfl (by kernel_rfl) rfl rfl ?_ ?_
        · refine Stp.callB (args := []) rfl rfl rfl cal23 rfl rfl hS (box_ok _ _ hS.on) ?_
          rintro _ w _ hS _ _ hkp ⟨rfl, rfl⟩
          have hK0 := hK0.trans hkp
          refine ⟨hK0, ?_⟩
          refine AL.take 9 rfl (by kernel_rfl) (by kernel_rfl) (by kernel_rfl) rfl rfl rfl hK0 (fun w hK => Res.index1 rfl rfl rfl Try.underlying41 sz5 Try.underlying5 rfl (Int.toNat_natCast _) ⟨Int.natCast_nonneg _, Int.ofNat_lt.2 (UInt8.toNat_lt _)⟩ (bs_get (by rw [Aes.boxL_len]; exact UInt8.toNat_lt _))) ?_
          refine AL.two 10 19 rfl rfl (by kernel_rfl) rfl rfl ?_ ?_
          · refine Stp.callB (args := []) rfl rfl rfl cal23 rfl rfl hS (box_ok _ _ hS.on) ?_
            rintro _ w _ hS _ _ hkp ⟨rfl, rfl⟩
            have hK0 := hK0.trans hkp
            refine ⟨hK0, ?_⟩
            refine AL.take 13 rfl (by kernel_rfl) (by kernel_rfl) (by kernel_rfl) rfl rfl rfl hK0 (fun w hK => Res.index1 rfl rfl rfl Try.underlying41 sz5 Try.underlying5 rfl (Int.toNat_natCast _) ⟨Int.natCast_nonneg _, Int.ofNat_lt.2 (UInt8.toNat_lt _)⟩ (bs_get (by rw [Aes.boxL_len]; exact UInt8.toNat_lt _))) ?_
            refine AL.two 14 19 rfl rfl (by kernel_rfl) rfl rfl ?_ ?_
            · refine Stp.callB (args := []) rfl rfl rfl cal23 rfl rfl hS (box_ok _ _ hS.on) ?_
              rintro _ w _ hS _ _ hkp ⟨rfl, rfl⟩
              have hK0 := hK0.trans hkp
              refine ⟨hK0, ?_⟩
              refine AL.take 17 rfl (by kernel_rfl) (by kernel_rfl) (by kernel_rfl) rfl rfl rfl hK0 (fun w hK => Res.index1 rfl rfl rfl Try.underlying41 sz5 Try.underlying5 rfl (Int.toNat_natCast _) ⟨Int.natCast_nonneg _, Int.ofNat_lt.2 (UInt8.toNat_lt _)⟩ (bs_get (by rw [Aes.boxL_len]; exact UInt8.toNat_lt _))) ?_
              refine AL.take 18 rfl (by kernel_rfl) (by kernel_rfl) (by kernel_rfl) rfl rfl rfl hK0 (fun w hK => Res.build (vals := [(0, _), (1, _), (2, _), (3, _)]) (cs := bs (Aes.last0 (Aes.rk key r) (Aes.pow r))) rfl rfl (fun _ => by kernel_rfl)) ?_
              refine AL.one 19 rfl (by kernel_rfl) rfl (Stp.alloc (cs := bs (List.replicate 4 0)) rfl z49 rfl rfl rfl hS ?_)
              intro b9 w hb9 hS hkp hnw
              have hn9 := hK0.fresh hnw
              have hK0 := hK0.trans hkp
              refine ⟨hK0, ?_⟩
              refine AL.one 20 rfl (by kernel_rfl) rfl (Stp.storeAllB 0 rfl rfl rfl sz49 rfl hS rfl ⟨List.length_replicate .., rfl⟩ ?_)
              intro w hS hpt
              have hK0 := hK0.put hpt (by assumption)
              refine ⟨hK0, ?_⟩
              refine AL.done (by kernel_rfl) (Thn_n ?_)
              exact ⟨b9, hb9, ⟨rfl, rfl, rfl, rfl, rfl, rfl, rfl, rfl, trivial⟩, hS⟩
            · refine Stp.alloc (cs := bs (List.replicate 4 0)) rfl z49 rfl rfl rfl hS ?_
              intro b9 w hb9 hS hkp hnw
              have hn9 := hK0.fresh hnw
              have hK0 := hK0.trans hkp
              refine ⟨hK0, ?_⟩
              refine AL.one 14 rfl (by kernel_rfl) rfl (Stp.callB (args := []) rfl rfl rfl cal23 rfl rfl hS (box_ok _ _ hS.on) ?_)
              rintro _ w _ hS _ _ hkp ⟨rfl, rfl⟩
              have hK0 := hK0.trans hkp
              refine ⟨hK0, ?_⟩
              refine AL.take 17 rfl (by kernel_rfl) (by kernel_rfl) (by kernel_rfl) rfl rfl rfl hK0 (fun w hK => Res.index1 rfl rfl rfl Try.underlying41 sz5 Try.underlying5 rfl (Int.toNat_natCast _) ⟨Int.natCast_nonneg _, Int.ofNat_lt.2 (UInt8.toNat_lt _)⟩ (bs_get (by rw [Aes.boxL_len]; exact UInt8.toNat_lt _))) ?_
              refine AL.take 18 rfl (by kernel_rfl) (by kernel_rfl) (by kernel_rfl) rfl rfl rfl hK0 (fun w hK => Res.build (vals := [(0, _), (1, _), (2, _), (3, _)]) (cs := bs (Aes.last0 (Aes.rk key r) (Aes.pow r))) rfl rfl (fun _ => by kernel_rfl)) ?_
              refine AL.one 20 rfl (by kernel_rfl) rfl (Stp.storeAllB 0 rfl rfl rfl sz49 rfl hS rfl ⟨List.length_replicate .., rfl⟩ ?_)
              intro w hS hpt
              have hK0 := hK0.put hpt (by assumption)
              refine ⟨hK0, ?_⟩
              refine AL.done (by kernel_rfl) (Thn_n ?_)
              exact ⟨b9, hb9, ⟨rfl, rfl, rfl, rfl, rfl, rfl, rfl, rfl, trivial⟩, hS⟩
          · refine Stp.alloc (cs := bs (List.replicate 4 0)) rfl z49 rfl rfl rfl hS ?_
            intro b9 w hb9 hS hkp hnw
            have hn9 := hK0.fresh hnw
            have hK0 := hK0.trans hkp
            refine ⟨hK0, ?_⟩
            refine AL.one 10 rfl (by kernel_rfl) rfl (Stp.callB (args := []) rfl rfl rfl cal23 rfl rfl hS (box_ok _ _ hS.on) ?_)
            rintro _ w _ hS _ _ hkp ⟨rfl, rfl⟩
            have hK0 := hK0.trans hkp
            refine ⟨hK0, ?_⟩
            refine AL.take 13 rfl (by kernel_rfl) (by kernel_rfl) (by kernel_rfl) rfl rfl rfl hK0 (fun w hK => Res.index1 rfl rfl rfl Try.underlying41 sz5 Try.underlying5 rfl (Int.toNat_natCast _) ⟨Int.natCast_nonneg _, Int.ofNat_lt.2 (UInt8.toNat_lt _)⟩ (bs_get (by rw [Aes.boxL_len]; exact UInt8.toNat_lt _))) ?_
            refine AL.one 14 rfl (by kernel_rfl) rfl (Stp.callB (args := []) rfl rfl rfl cal23 rfl rfl hS (box_ok _ _ hS.on) ?_)
            rintro _ w _ hS _ _ hkp ⟨rfl, rfl⟩
            have hK0 := hK0.trans hkp
            refine ⟨hK0, ?_⟩
            refine AL.take 17 rfl (by kernel_rfl) (by kernel_rfl) (by kernel_rfl) rfl rfl rfl hK0 (fun w hK => Res.index1 rfl rfl rfl Try.underlying41 sz5 Try.underlying5 rfl (Int.toNat_natCast _) ⟨Int.natCast_nonneg _, Int.ofNat_lt.2 (UInt8.toNat_lt _)⟩ (bs_get (by rw [Aes.boxL_len]; exact UInt8.toNat_lt _))) ?_
            refine AL.take 18 rfl (by kernel_rfl) (by kernel_rfl) (by kernel_rfl) rfl rfl rfl hK0 (fun w hK => Res.build (vals := [(0, _), (1, _), (2, _), (3, _)]) (cs := bs (Aes.last0 (Aes.rk key r) (Aes.pow r))) rfl rfl (fun _ => by kernel_rfl)) ?_
            refine AL.one 20 rfl (by kernel_rfl) rfl (Stp.storeAllB 0 rfl rfl rfl sz49 rfl hS rfl ⟨List.length_replicate .., rfl⟩ ?_)
            intro w hS hpt
            have hK0 := hK0.put hpt (by assumption)
            refine ⟨hK0, ?_⟩
            refine AL.done (by kernel_rfl) (Thn_n ?_)
            exact ⟨b9, hb9, ⟨rfl, rfl, rfl, rfl, rfl, rfl, rfl, rfl, trivial⟩, hS⟩
        · refine Stp.alloc (cs := bs (List.replicate 4 0)) rfl z49 rfl rfl rfl hS ?_
          intro b9 w hb9 hS hkp hnw
          have hn9 := hK0.fresh hnw
          have hK0 := hK0.trans hkp
          refine ⟨hK0, ?_⟩
          refine AL.one 6 rfl (by kernel_rfl) rfl (Stp.callB (args := []) rfl rfl rfl cal23 rfl rfl hS (box_ok _ _ hS.on) ?_)
          rintro _ w _ hS _ _ hkp ⟨rfl, rfl⟩
          have hK0 := hK0.trans hkp
          refine ⟨hK0, ?_⟩
          refine AL.take 9 rfl (by kernel_rfl) (by kernel_rfl) (by kernel_rfl) rfl rfl rfl hK0 (fun w hK => Res.index1 rfl rfl rfl Try.underlying41 sz5 Try.underlying5 rfl (Int.toNat_natCast _) ⟨Int.natCast_nonneg _, Int.ofNat_lt.2 (UInt8.toNat_lt _)⟩ (bs_get (by rw [Aes.boxL_len]; exact UInt8.toNat_lt _))) ?_
          refine AL.one 10 rfl (by kernel_rfl) rfl (Stp.callB (args := []) rfl rfl rfl cal23 rfl rfl hS (box_ok _ _ hS.on) ?_)
          rintro _ w _ hS _ _ hkp ⟨rfl, rfl⟩
          have hK0 := hK0.trans hkp
          refine ⟨hK0, ?_⟩
          refine AL.take 13 rfl (by kernel_rfl) (by kernel_rfl) (by kernel_rfl) rfl rfl rfl hK0 (fun w hK => Res.index1 rfl rfl rfl Try.underlying41 sz5 Try.underlying5 rfl (Int.toNat_natCast _) ⟨Int.natCast_nonneg _, Int.ofNat_lt.2 (UInt8.toNat_lt _)⟩ (bs_get (by rw [Aes.boxL_len]; exact UInt8.toNat_lt _))) ?_
          refine AL.one 14 rfl (by kernel_rfl) rfl (Stp.callB (args := []) rfl rfl rfl cal23 rfl rfl hS (box_ok _ _ hS.on) ?_)
          rintro _ w _ hS _ _ hkp ⟨rfl, rfl⟩
          have hK0 := hK0.trans hkp
          refine ⟨hK0, ?_⟩
          refine AL.take 17 rfl (by kernel_rfl) (by kernel_rfl) (by kernel_rfl) rfl rfl rfl hK0 (fun w hK => Res.index1 rfl rfl rfl Try.underlying41 sz5 Try.underlying5 rfl (Int.toNat_natCast _) ⟨Int.natCast_nonneg _, Int.ofNat_lt.2 (UInt8.toNat_lt _)⟩ (bs_get (by rw [Aes.boxL_len]; exact UInt8.toNat_lt _))) ?_
          refine AL.take 18 rfl (by kernel_rfl) (by kernel_rfl) (by kernel_rfl) rfl rfl rfl hK0 (fun w hK => Res.build (vals := [(0, _), (1, _), (2, _), (3, _)]) (cs := bs (Aes.last0 (Aes.rk key r) (Aes.pow r))) rfl rfl (fun _ => by kernel_rfl)) ?_
          refine AL.one 20 rfl (by kernel_rfl) rfl (Stp.storeAllB 0 rfl rfl rfl sz49 rfl hS rfl ⟨List.length_replicate .., rfl⟩ ?_)
          intro w hS hpt
          have hK0 := hK0.put hpt (by assumption)
          refine ⟨hK0, ?_⟩
          refine AL.done (by kernel_rfl) (Thn_n ?_)
          exact ⟨b9, hb9, ⟨rfl, rfl, rfl, rfl, rfl, rfl, rfl, rfl, trivial⟩, hS⟩
      · refine Stp.alloc (cs := bs (List.replicate 4 0)) rfl z49 rfl rfl rfl hS ?_
        intro b9 w hb9 hS hkp hnw
        have hn9 := hK0.fresh hnw
        have hK0 := hK0.trans hkp
        refine ⟨hK0, ?_⟩
        refine AL.one 0 rfl (by kernel_rfl) rfl (Stp.callB (args := []) rfl rfl rfl cal23 rfl rfl hS (box_ok _ _ hS.on) ?_)
        rintro _ w _ hS _ _ hkp ⟨rfl, rfl⟩
        have hK0 := hK0.trans hkp
        refine ⟨hK0, ?_⟩
        refine AL.take 3 rfl (by kernel_rfl) (by kernel_rfl) (by kernel_rfl) rfl rfl rfl hK0 (fun w hK => Res.index1 rfl rfl rfl Try.underlying41 sz5 Try.underlying5 rfl (Int.toNat_natCast _) ⟨Int.natCast_nonneg _, Int.ofNat_lt.2 (UInt8.toNat_lt _)⟩ (bs_get (by rw [Aes.boxL_len]; exact UInt8.toNat_lt _))) ?_
        refine AL.take 5 rfl (by kernel_rfl) (by kernel_rfl) (by kernel_rfl) rfl rfl rfl hK0 (fun w hK => Res.xorB _ rfl rfl rfl) ?_
        refine AL.one 6 rfl (by kernel_rfl) rfl (Stp.callB (args := []) rfl rfl rfl cal23 rfl rfl hS (box_ok _ _ hS.on) ?_)
        rintro _ w _ hS _ _ hkp ⟨rfl, rfl⟩
        have hK0 := hK0.trans hkp
        refine ⟨hK0, ?_⟩
        refine AL.take 9 rfl (by kernel_rfl) (by kernel_rfl) (by kernel_rfl) rfl rfl rfl hK0 (fun w hK => Res.index1 rfl rfl rfl Try.underlying41 sz5 Try.underlying5 rfl (Int.toNat_natCast _) ⟨Int.natCast_nonneg _, Int.ofNat_lt.2 (UInt8.toNat_lt _)⟩ (bs_get (by rw [Aes.boxL_len]; exact UInt8.toNat_lt _))) ?_
        refine AL.one 10 rfl (by kernel_rfl) rfl (Stp.callB (args := []) rfl rfl rfl cal23 rfl rfl hS (box_ok _ _ hS.on) ?_)
        rintro _ w _ hS _ _ hkp ⟨rfl, rfl⟩
        have hK0 := hK0.trans hkp
        refine ⟨hK0, ?_⟩
        refine AL.take 13 rfl (by kernel_rfl) (by kernel_rfl) (by kernel_rfl) rfl rfl rfl hK0 (fun w hK => Res.index1 rfl rfl rfl Try.underlying41 sz5 Try.underlying5 rfl (Int.toNat_natCast _) ⟨Int.natCast_nonneg _, Int.ofNat_lt.2 (UInt8.toNat_lt _)⟩ (bs_get (by rw [Aes.boxL_len]; exact UInt8.toNat_lt _))) ?_
        refine AL.one 14 rfl (by kernel_rfl) rfl (Stp.callB (args := []) rfl rfl rfl cal23 rfl rfl hS (box_ok _ _ hS.on) ?_)
        rintro _ w _ hS _ _ hkp ⟨rfl, rfl⟩
        have hK0 := hK0.trans hkp
        refine ⟨hK0, ?_⟩
        refine AL.take 17 rfl (by kernel_rfl) (by kernel_rfl) (by kernel_rfl) rfl rfl rfl hK0 (fun w hK => Res.index1 rfl rfl rfl Try.underlying41 sz5 Try.underlying5 rfl (Int.toNat_natCast _) ⟨Int.natCast_nonneg _, Int.ofNat_lt.2 (UInt8.toNat_lt _)⟩ (bs_get (by rw [Aes.boxL_len]; exact UInt8.toNat_lt _))) ?_
        refine AL.take 18 rfl (by kernel_rfl) (by kernel_rfl) (by kernel_rfl) rfl rfl rfl hK0 (fun w hK => Res.build (vals := [(0, _), (1, _), (2, _), (3, _)]) (cs := bs (Aes.last0 (Aes.rk key r) (Aes.pow r))) rfl rfl (fun _ => by kernel_rfl)) ?_
        refine AL.one 20 rfl (by kernel_rfl) rfl (Stp.storeAllB 0 rfl rfl rfl sz49 rfl hS rfl ⟨List.length_replicate .., rfl⟩ ?_)
        intro w hS hpt
        have hK0 := hK0.put hpt (by assumption)
        refine ⟨hK0, ?_⟩
        refine AL.done (by kernel_rfl) (Thn_n ?_)
        exact ⟨b9, hb9, ⟨rfl, rfl, rfl, rfl, rfl, rfl, rfl, rfl, trivial⟩, hS⟩
    · rintro L w ⟨b9, hb9, hsub, hS⟩
      refine (Thn_n (CW.sub hsub ?_))
      refine CW.seq ?_
      refine CW.seq ?_
      refine CW.region ?_
      refine WL.step rfl (Stp.res rfl rfl (Res.move rfl rfl) ?_)
      refine WL.nil (Thn_n ?_)
      refine CW.block ?_
      refine CW.loop (σ := Nat) (fun j => [(2, .pointer (some ⟨b2, 0, none⟩)), (3, .int .i64 0), (4, .pointer (some ⟨b4, 0, none⟩)), (5, byte (Aes.pow r)), (6, .int .i64 (↑r + 1)), (7, .pointer (some ⟨b7, 0, none⟩)), (8, .pointer (some ⟨b4, (r + 1) * 16, none⟩)), (9, .pointer (some ⟨b9, 0, none⟩)), (48, .int .i64 j)])
        (fun j w' => j ≤ 16 ∧ St w0 w' M [(b9, .cells (bs (Aes.lastAt (Aes.rk key r) (Aes.pow r) j)) 49 (0, 0)), (b7, .cells (bs (Aes.rk key r)) 29 (0, 0)), (b4, .cells (bs (Aes.upTo (16 * (r + 1) + j) (Aes.kf key) (List.replicate 176 0))) 36 (0, 0)), (b2, .cells (bs (List.replicate 176 0)) 36 (0, 0))]) (fun j => 16 - j) 0 ⟨rfl, rfl, rfl, rfl, rfl, rfl, rfl, rfl, rfl, trivial⟩ ⟨by omega, hS⟩ ?_
      rintro j w2 ⟨hj, hS⟩
      refine CW.seq ?_
      refine CW.region ?_
      refine WL.step rfl (Stp.res rfl rfl (Res.lss rfl rfl rfl) ?_)
      refine WL.nil (Thn_n ?_)
      refine CW.seq ?_
      refine CW.ite rfl (fun h2 => ?_) (fun h2 => ?_)
      · obtain hlj : j < 16 := by omega
        refine CW.skip (Thn_n ?_)
        refine CW.seq ?_
        refine CW.block ?_
        refine CW.seq ?_
        refine CW.region ?_
        refine WL.step rfl (Stp.res rfl rfl (Res.move rfl rfl) ?_)
        refine WL.step rfl (Stp.res rfl rfl (Res.assign rfl rfl) ?_)
        refine WL.nil (Thn_n ?_)
        refine CW.seq ?_
        have hS := hS.drew
        refine CW.tail 9 mixed (by kernel_rfl) ?_
        refine SL.step rfl rfl rfl (Res.move rfl rfl) ?_
        refine SL.step rfl rfl rfl (Res.rem rfl rfl rfl (by omega)) ?_
        refine SL.step rfl rfl rfl (Res.idxA0 (k := j % 4) rfl rfl rfl Try.underlying49 sz5 (by omega) (by omega)) ?_
        refine SL.step rfl rfl rfl (Res.load1 rfl rfl Try.underlying5 rfl (hS.ocell (i := 0) rfl (bs_get (by rw [Aes.lastAt_length]; omega)))) ?_
        refine SL.step rfl rfl rfl (Res.move rfl rfl) ?_
        first | refine SL.step rfl rfl rfl (Res.idxA0 rfl rfl rfl Try.underlying29 sz5 (by first | exact Int.toNat_natCast _ | rfl) (by omega)) ?_ | refine SL.step rfl rfl rfl (Res.idxA1 rfl rfl rfl Try.underlying29 sz5 (by first | exact Int.toNat_natCast _ | rfl) (by omega)) ?_
        refine SL.step rfl rfl rfl (Res.load1 rfl rfl Try.underlying5 rfl (hS.ocell (i := 1) rfl (bs_get (by rw [Aes.rk_length hk]; omega)))) ?_
        refine SL.step rfl rfl rfl (Res.xorB _ rfl rfl rfl) ?_
        refine SL.step rfl rfl rfl (Res.idxA0 (k := j % 4) rfl rfl rfl Try.underlying49 sz5 (by omega) (by omega)) ?_
        refine SL.nil ?_
        refine WL.step rfl (Stp.storeB 0 rfl rfl rfl sz5 rfl hS rfl (by rw [Aes.lastAt_length]; omega) ?_)
        intro w hS hpt
        change St w0 w M [(b9, .cells (bs (Aes.lastAt (Aes.rk key r) (Aes.pow r) (j + 1))) 49 (0, 0)), (b7, .cells (bs (Aes.rk key r)) 29 (0, 0)), (b4, .cells (bs (Aes.upTo (16 * (r + 1) + j) (Aes.kf key) (List.replicate 176 0))) 36 (0, 0)), (b2, .cells (bs (List.replicate 176 0)) 36 (0, 0))] at hS
        refine WL.nil (Thn_n ?_)
        have hS := hS.drew
        refine CW.tail 8 mixed (by kernel_rfl) ?_
        refine SL.step rfl rfl rfl (Res.move rfl rfl) ?_
        refine SL.step rfl rfl rfl (Res.move rfl rfl) ?_
        refine SL.step rfl rfl rfl (Res.move rfl rfl) ?_
        refine SL.step rfl rfl rfl (Res.rem rfl rfl rfl (by omega)) ?_
        refine SL.step rfl rfl rfl (Res.idxA0 (k := j % 4) rfl rfl rfl Try.underlying49 sz5 (by omega) (by omega)) ?_
        refine SL.step rfl rfl rfl (Res.load1 rfl rfl Try.underlying5 rfl (hS.ocell (i := 0) rfl (bs_get (by rw [Aes.lastAt_length]; omega)))) ?_
        refine SL.step rfl rfl rfl (Res.nilCheck rfl rfl) ?_
        refine SL.step rfl rfl rfl (Res.idxA1 (k := j) rfl rfl rfl Try.underlying29 sz5 (by omega) (by omega)) ?_
        refine SL.nil ?_
        refine WL.step rfl (Stp.storeB 2 rfl rfl rfl sz5 rfl hS rfl (by rw [Aes.upTo_length, List.length_replicate]; omega) ?_)
        intro w hS hpt
        refine WL.nil (Blk_n (Thn_n ?_))
        refine CW.region ?_
        refine WL.step rfl (Stp.res rfl rfl (Res.add rfl rfl rfl (by omega)) ?_)
        refine WL.step rfl (Stp.res rfl rfl (Res.move rfl rfl) ?_)
        refine WL.nil (Thn_n ?_)
        refine ⟨j + 1, ⟨rfl, rfl, rfl, rfl, rfl, rfl, rfl, rfl, rfl, trivial⟩, ⟨by omega, ?_⟩, by omega⟩
        rw [← Aes.upTo_key key r j hlj]
        exact hS
      · obtain rfl : j = 16 := by omega
        refine CW.exit (Thn_x (Thn_x (Blk_x (Thn_n ?_))))
        refine CW.region ?_
        refine WL.step rfl (Stp.res rfl rfl (Res.move rfl rfl) ?_)
        refine WL.step rfl (Stp.callA (args := [_]) rfl rfl rfl cal22 rfl rfl (twice_ok _ _) ?_)
        refine WL.step rfl (Stp.res rfl rfl (Res.assign rfl rfl) ?_)
        refine WL.nil (Blk_n (Thn_n ?_))
        refine CW.region ?_
        refine WL.step rfl (Stp.res rfl rfl (Res.move rfl rfl) ?_)
        refine WL.step rfl (Stp.res rfl rfl (Res.add rfl rfl rfl (by omega)) ?_)
        refine WL.step rfl (Stp.res rfl rfl (Res.assign rfl rfl) ?_)
        refine WL.nil (Thn_n ?_)
        refine ⟨r + 1, ⟨rfl, rfl, rfl, rfl, rfl, trivial⟩, ⟨by omega, ?_⟩, by omega⟩
        have e : 16 * (r + 1) + 16 = 16 * (r + 1 + 1) := by omega
        rw [e] at hS
        exact (hS.drop (i := 0) rfl hb9).drop (i := 0) rfl hb7
  · obtain rfl : r = 10 := by omega
    refine CW.exit (Thn_x (Thn_x (Blk_x (Thn_n ?_))))
    refine CW.seq ?_
    refine CW.region ?_
    refine WL.step rfl (Stp.res rfl rfl (Res.loadAll rfl rfl Try.underlying36 rfl (by rw [size_bs, Aes.upTo_length, List.length_replicate]; exact sz36) (hS.get (i := 0) rfl)) ?_)
    refine WL.step rfl (Stp.storeAllB 1 rfl rfl rfl sz36 rfl hS rfl ⟨List.length_replicate .., by rw [Aes.upTo_length, List.length_replicate]⟩ ?_)
    intro w hS hpt
    refine WL.step rfl (Stp.res rfl rfl (Res.assign rfl rfl) ?_)
    refine WL.nil (Thn_n ?_)
    refine CW.ret ?_
    refine fq_cell_tmp rfl rfl rfl (hS.get (i := 1) rfl) Try.underlying36 rfl (by rw [size_bs, Aes.upTo_length, List.length_replicate]; exact sz36) ⟨M, (hS.drop (i := 0) rfl hb4).drop (i := 0) rfl hb2, PH.le.refl _, Fresh.refl _ _, rfl, ?_⟩
    rw [Aes.upTo_all _ _ 176 (List.length_replicate ..)]
    rfl

theorem start_bad1 (kv bv : Value) (key blk : List UInt8) (w0 : World) (M : PH) (hM : On M w0) (hkey : Bs M kv key) (hblk : Bs M bv blk) (hk : key.length ≠ 16) : Ok Try.prog 24 #[kv, bv] w0 M (fun M' r => M = M' ∧ r = .tuple #[.pointer none, .agg (bs (List.replicate 176 0)), .int .i64 2]) := by
  have hS := hM.st
  have hkey0 := hkey
  have hblk0 := hblk
  obtain ⟨kv_a, kv_c, rfl, kv_1, kv_2, kv_3, kv_4⟩ := hkey
  obtain ⟨bv_a, bv_c, rfl, bv_1, bv_2, bv_3, bv_4⟩ := hblk
  refine enterB (l := [.slice kv_a key.length kv_c, .slice bv_a blk.length bv_c]) 28 Try.func24 rfl Try.ntmps24 rfl ?_
  refine CW.seq ?_
  refine CW.region ?_
  refine WL.step rfl (Stp.res rfl rfl (Res.assign rfl rfl) ?_)
  refine WL.step rfl (Stp.alloc (cs := bs (List.replicate 176 0)) rfl z36 rfl rfl rfl hS ?_)
  intro b5 w hb5 hS hkp hnw
  refine WL.step rfl (Stp.res rfl rfl (Res.assign rfl rfl) ?_)
  refine WL.nil (Thn_n ?_)
  refine CW.seq ?_
  refine CW.region ?_
  refine WL.step rfl (Stp.res rfl rfl (Res.move rfl rfl) ?_)
  refine WL.step rfl (Stp.callB (args := [_]) rfl rfl rfl cal20 rfl rfl hS (keys_bad _ _ _ _ hS.on hkey0 hk) ?_)
  rintro _ w _ hS _ _ hkp ⟨rfl, rfl⟩
  refine WL.step rfl (Stp.res rfl rfl (Res.move rfl rfl) ?_)
  refine WL.step rfl (Stp.res rfl rfl (Res.extract (l := [_, _]) rfl rfl rfl) ?_)
  refine WL.step rfl (Stp.res rfl rfl (Res.extract (l := [_, _]) rfl rfl rfl) ?_)
  refine WL.step rfl (Stp.alloc (cs := bs (List.replicate 176 0)) rfl z36 rfl rfl rfl hS ?_)
  intro b7 w hb7 hS hkp hnw
  refine WL.step rfl (Stp.storeAllB 0 rfl rfl rfl sz36 rfl hS rfl ⟨List.length_replicate .., List.length_replicate ..⟩ ?_)
  intro w hS hpt
  refine WL.step rfl (Stp.res rfl rfl (Res.assign rfl rfl) ?_)
  refine WL.nil (Thn_n ?_)
  refine CW.seq ?_
  refine CW.seq ?_
  refine CW.region ?_
  refine WL.step rfl (Stp.res rfl rfl (Res.move rfl rfl) ?_)
  refine WL.step rfl (Stp.res rfl rfl (Res.neq rfl rfl rfl) ?_)
  refine WL.step rfl (Stp.res rfl rfl (Res.move rfl rfl) ?_)
  refine WL.skipG 2 false rfl rfl rfl rfl rfl rfl ?_
  refine WL.skipG 2 false rfl rfl rfl rfl rfl rfl ?_
  refine WL.skipG 2 false rfl rfl rfl rfl rfl rfl ?_
  refine WL.step rfl (Stp.res rfl rfl (Res.pickT rfl rfl rfl) ?_)
  refine WL.nil (Thn_n ?_)
  refine CW.condT rfl ?_
  refine CW.seq ?_
  have hS := hS.drew
  refine CW.tail 2 mixed (by kernel_rfl) ?_
  refine SL.step rfl rfl rfl (Res.loadAll rfl rfl Try.underlying36 rfl (by rw [size_bs, List.length_replicate]; exact sz36) (hS.get (i := 0) rfl)) ?_
  refine SL.step rfl rfl rfl (Res.assign rfl rfl) ?_
  refine SL.nil ?_
  refine WL.step rfl (Stp.storeAllB 1 rfl rfl rfl sz36 rfl hS rfl ⟨List.length_replicate .., List.length_replicate ..⟩ ?_)
  intro w hS hpt
  refine WL.step rfl (Stp.res rfl rfl (Res.assign rfl rfl) ?_)
  refine WL.nil (Thn_n ?_)
  refine CW.ret (Thn_r ?_)
  exact fq_tmp_cell_tmp rfl rfl rfl rfl (hS.get (i := 1) rfl) Try.underlying36 rfl (by rw [size_bs, List.length_replicate]; exact sz36) ⟨M, (hS.drop (i := 0) rfl hb7).drop (i := 0) rfl hb5, PH.le.refl _, Fresh.refl _ _, rfl, rfl⟩

theorem start_bad2 (kv bv : Value) (key blk : List UInt8) (w0 : World) (M : PH) (hM : On M w0) (hkey : Bs M kv key) (hblk : Bs M bv blk) (hk : key.length = 16) (hb16 : blk.length ≠ 16) : Ok Try.prog 24 #[kv, bv] w0 M (fun M' r => M = M' ∧ r = .tuple #[.pointer none, .agg (bs (Aes.keysL key)), .int .i64 2]) := by
  have hS := hM.st
  have hkey0 := hkey
  have hblk0 := hblk
  obtain ⟨kv_a, kv_c, rfl, kv_1, kv_2, kv_3, kv_4⟩ := hkey
  obtain ⟨bv_a, bv_c, rfl, bv_1, bv_2, bv_3, bv_4⟩ := hblk
  refine enterB (l := [.slice kv_a key.length kv_c, .slice bv_a blk.length bv_c]) 28 Try.func24 rfl Try.ntmps24 rfl ?_
  refine CW.seq ?_
  refine CW.region ?_
  refine WL.step rfl (Stp.res rfl rfl (Res.assign rfl rfl) ?_)
  refine WL.step rfl (Stp.alloc (cs := bs (List.replicate 176 0)) rfl z36 rfl rfl rfl hS ?_)
  intro b5 w hb5 hS hkp hnw
  refine WL.step rfl (Stp.res rfl rfl (Res.assign rfl rfl) ?_)
  refine WL.nil (Thn_n ?_)
  refine CW.seq ?_
  refine CW.region ?_
  refine WL.step rfl (Stp.res rfl rfl (Res.move rfl rfl) ?_)
  refine WL.step rfl (Stp.callB (args := [_]) rfl rfl rfl cal20 rfl rfl hS (keys_ok _ _ _ _ hS.on hkey0 hk) ?_)
  rintro _ w _ hS _ _ hkp ⟨rfl, rfl⟩
  refine WL.step rfl (Stp.res rfl rfl (Res.move rfl rfl) ?_)
  refine WL.step rfl (Stp.res rfl rfl (Res.extract (l := [_, _]) rfl rfl rfl) ?_)
  refine WL.step rfl (Stp.res rfl rfl (Res.extract (l := [_, _]) rfl rfl rfl) ?_)
  refine WL.step rfl (Stp.alloc (cs := bs (List.replicate 176 0)) rfl z36 rfl rfl rfl hS ?_)
  intro b7 w hb7 hS hkp hnw
  refine WL.step rfl (Stp.storeAllB 0 rfl rfl rfl sz36 rfl hS rfl ⟨List.length_replicate .., Aes.keysL_length _⟩ ?_)
  intro w hS hpt
  refine WL.step rfl (Stp.res rfl rfl (Res.assign rfl rfl) ?_)
  refine WL.nil (Thn_n ?_)
  refine CW.seq ?_
  refine CW.seq ?_
  refine CW.region ?_
  refine WL.step rfl (Stp.res rfl rfl (Res.move rfl rfl) ?_)
  refine WL.step rfl (Stp.res rfl rfl (Res.neq rfl rfl rfl) ?_)
  refine WL.step rfl (Stp.res rfl rfl (Res.move rfl rfl) ?_)
  refine WL.stepG 2 false rfl rfl rfl rfl (Stp.res rfl rfl (Res.move rfl rfl) ?_)
  refine WL.stepG 2 false rfl rfl rfl rfl (Stp.res rfl rfl (Res.len rfl rfl rfl rfl Try.underlying26) ?_)
  refine WL.stepG 2 false rfl rfl rfl rfl (Stp.res rfl rfl (Res.neq rfl rfl rfl) ?_)
  refine WL.step rfl (Stp.res rfl rfl (Res.pickF rfl rfl rfl) ?_)
  refine WL.nil (Thn_n ?_)
  refine CW.iteT rfl (by omega) ?_
  refine CW.seq ?_
  have hS := hS.drew
  refine CW.tail 2 mixed (by kernel_rfl) ?_
  refine SL.step rfl rfl rfl (Res.loadAll rfl rfl Try.underlying36 rfl (by rw [size_bs, Aes.keysL_length]; exact sz36) (hS.get (i := 0) rfl)) ?_
  refine SL.step rfl rfl rfl (Res.assign rfl rfl) ?_
  refine SL.nil ?_
  refine WL.step rfl (Stp.storeAllB 1 rfl rfl rfl sz36 rfl hS rfl ⟨List.length_replicate .., Aes.keysL_length _⟩ ?_)
  intro w hS hpt
  refine WL.step rfl (Stp.res rfl rfl (Res.assign rfl rfl) ?_)
  refine WL.nil (Thn_n ?_)
  refine CW.ret (Thn_r ?_)
  exact fq_tmp_cell_tmp rfl rfl rfl rfl (hS.get (i := 1) rfl) Try.underlying36 rfl (by rw [size_bs, Aes.keysL_length]; exact sz36) ⟨M, (hS.drop (i := 0) rfl hb7).drop (i := 0) rfl hb5, PH.le.refl _, Fresh.refl _ _, rfl, rfl⟩

theorem start_ok (kv bv : Value) (key blk : List UInt8) (w0 : World) (M : PH) (hM : On M w0) (hkey : Bs M kv key) (hblk : Bs M bv blk) (hk : key.length = 16) (hb16 : blk.length = 16) : Ok Try.prog 24 #[kv, bv] w0 M (fun M' r => ∃ b, M b = none ∧ w0.heap.size ≤ b ∧ M' b = some (.cells (bs blk) 54 (0, 0)) ∧ r = .tuple #[.pointer (some ⟨b, 0, none⟩), .agg (bs (Aes.keysL key)), .int .i64 0]) := by
  have hS := hM.st
  have hkey0 := hkey
  obtain ⟨kv_a, kv_c, rfl, kv_1, kv_2, kv_3, kv_4⟩ := hkey
  obtain ⟨bb, bo, bc, rfl, hbc, hbm, hbcell⟩ := hblk.at (by omega)
  refine enterB (l := [.slice kv_a key.length kv_c, .slice (some ⟨bb, bo, none⟩) blk.length bc]) 28 Try.func24 rfl Try.ntmps24 rfl ?_
  refine CW.seq ?_
  refine CW.region ?_
  refine WL.step rfl (Stp.res rfl rfl (Res.assign rfl rfl) ?_)
  refine WL.step rfl (Stp.alloc (cs := bs (List.replicate 176 0)) rfl z36 rfl rfl rfl hS ?_)
  intro b5 w hb5 hS hkp hnw
  refine WL.step rfl (Stp.res rfl rfl (Res.assign rfl rfl) ?_)
  refine WL.nil (Thn_n ?_)
  refine CW.seq ?_
  refine CW.region ?_
  refine WL.step rfl (Stp.res rfl rfl (Res.move rfl rfl) ?_)
  refine WL.step rfl (Stp.callB (args := [_]) rfl rfl rfl cal20 rfl rfl hS (keys_ok _ _ _ _ hS.on hkey0 hk) ?_)
  rintro _ w _ hS _ _ hkp ⟨rfl, rfl⟩
  refine WL.step rfl (Stp.res rfl rfl (Res.move rfl rfl) ?_)
  refine WL.step rfl (Stp.res rfl rfl (Res.extract (l := [_, _]) rfl rfl rfl) ?_)
  refine WL.step rfl (Stp.res rfl rfl (Res.extract (l := [_, _]) rfl rfl rfl) ?_)
  refine WL.step rfl (Stp.alloc (cs := bs (List.replicate 176 0)) rfl z36 rfl rfl rfl hS ?_)
  intro b7 w hb7 hS hkp hnw
  refine WL.step rfl (Stp.storeAllB 0 rfl rfl rfl sz36 rfl hS rfl ⟨List.length_replicate .., Aes.keysL_length _⟩ ?_)
  intro w hS hpt
  refine WL.step rfl (Stp.res rfl rfl (Res.assign rfl rfl) ?_)
  refine WL.nil (Thn_n ?_)
  refine CW.seq ?_
  refine CW.seq ?_
  refine CW.region ?_
  refine WL.step rfl (Stp.res rfl rfl (Res.move rfl rfl) ?_)
  refine WL.step rfl (Stp.res rfl rfl (Res.neq rfl rfl rfl) ?_)
  refine WL.step rfl (Stp.res rfl rfl (Res.move rfl rfl) ?_)
  refine WL.stepG 2 false rfl rfl rfl rfl (Stp.res rfl rfl (Res.move rfl rfl) ?_)
  refine WL.stepG 2 false rfl rfl rfl rfl (Stp.res rfl rfl (Res.len rfl rfl rfl rfl Try.underlying26) ?_)
  refine WL.stepG 2 false rfl rfl rfl rfl (Stp.res rfl rfl (Res.neq rfl rfl rfl) ?_)
  refine WL.step rfl (Stp.res rfl rfl (Res.pickF rfl rfl rfl) ?_)
  refine WL.nil (Thn_n ?_)
  refine CW.iteF rfl (by omega) ?_
  refine CW.skip (Thn_n ?_)
  refine CW.seq ?_
  refine CW.region ?_
  refine WL.step rfl (Stp.res rfl rfl (Res.move rfl rfl) ?_)
  refine WL.step rfl (Stp.res rfl rfl (Res.s2a rfl rfl Try.underlying54 (by omega)) ?_)
  refine WL.step rfl (Stp.res rfl rfl (Res.loadNB (l := blk) rfl rfl Try.underlying54 rfl sz54 hb16 (fun j hj => hS.cell (hbcell j (by omega)))) ?_)
  refine WL.step rfl (Stp.alloc (cs := bs (List.replicate 16 0)) rfl z54 rfl rfl rfl hS ?_)
  intro b9 w hb9 hS hkp hnw
  refine WL.step rfl (Stp.storeAllB 0 rfl rfl rfl sz54 rfl hS rfl ⟨List.length_replicate .., hb16⟩ ?_)
  intro w hS hpt
  refine WL.nil (Thn_n ?_)
  refine CW.seq ?_
  have hS := hS.drew
  have hK0 : w.drew.heap[b7]? = some (.cells (bs (Aes.keysL key)) 36 (0, 0)) := hS.get (i := 1) rfl
  refine CW.held (fun w' => w'.heap[b7]? = some (.cells (bs (Aes.keysL key)) 36 (0, 0))) mixed ?_
  refine AL.take 0 rfl (by kernel_rfl) (by kernel_rfl) (by kernel_rfl) rfl rfl rfl hK0 (fun w hK => Res.loadAll rfl rfl Try.underlying36 rfl (by rw [size_bs, Aes.keysL_length]; exact sz36) hK) ?_
  refine AL.take 1 rfl (by kernel_rfl) (by kernel_rfl) (by kernel_rfl) rfl rfl rfl hK0 (fun w hK => Res.move rfl rfl) ?_
  refine AL.take 2 rfl (by kernel_rfl) (by kernel_rfl) (by kernel_rfl) rfl rfl rfl hK0 (fun w hK => Res.assign rfl rfl) ?_
  refine AL.one 3 rfl (by kernel_rfl) rfl (Stp.storeAllB 2 rfl rfl rfl sz36 rfl hS rfl ⟨List.length_replicate .., Aes.keysL_length _⟩ ?_)
  intro w hS hpt
  have hK0 : w.heap[b7]? = some (.cells (bs (Aes.keysL key)) 36 (0, 0)) := hS.get (i := 1) rfl
  refine ⟨hK0, ?_⟩
  refine AL.take 4 rfl (by kernel_rfl) (by kernel_rfl) (by kernel_rfl) rfl rfl rfl hK0 (fun w hK => Res.assign rfl rfl) ?_
  refine AL.done (by kernel_rfl) (Thn_n ?_)
  refine CW.ret ?_
  have hM9 : M b9 = none := hS.out (i := 0) rfl
  have hF := hS.freeze (i := 0) rfl hb9
  exact fq_tmp_cell_tmp rfl rfl rfl rfl (hS.get (i := 2) rfl) Try.underlying36 rfl (by rw [size_bs, Aes.keysL_length]; exact sz36) ⟨_, (hF.1.drop (i := 0) rfl hb7).drop (i := 0) rfl hb5, hF.2, Fresh.add _ hb9, _, hM9, hb9, PH.add_self _ _ _, rfl⟩
end Go.Proofs.Ytanogodfnfkkbaa
