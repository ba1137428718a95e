/- Own text of this seat (A1): lemmas on the way to the statement; no condition of its own. -/
import Derived.Test.YtanogodfnfkkbaaA0
set_option linter.unusedVariables false
namespace Go.Proofs.Ytanogodfnfkkbaa
open Go Go.E
theorem twice_ok (x : UInt8) (w : World) : Calls Try.prog 22 #[byte x] w fun e w' => ∃ v, e = .returned v ∧ v = byte (Aes.twice x) ∧ w' = w := by
  refine enter (l := [byte x]) 9 Try.func22 rfl Try.ntmps22 rfl ?_
  refine CW.seq ?_
  refine CW.region ?_
  refine WL.step rfl (Stp.res rfl rfl (Res.assign (v := byte 0) rfl rfl) ?_)
  refine WL.nil (Thn_n ?_)
  refine CW.seq ?_
  refine CW.region ?_
  refine WL.step rfl (Stp.res rfl rfl (Res.move rfl rfl) ?_)
  refine WL.step rfl (Stp.res rfl rfl (Res.shlB 1 rfl rfl rfl (by decide)) ?_)
  refine WL.step rfl (Stp.res rfl rfl (Res.move rfl rfl) ?_)
  refine WL.step rfl (Stp.res rfl rfl (Res.shrB 7 rfl rfl rfl (by decide)) ?_)
  refine WL.step rfl (Stp.res rfl rfl (Res.mulB 27 rfl rfl rfl) ?_)
  refine WL.step rfl (Stp.res rfl rfl (Res.xorB _ rfl rfl rfl) ?_)
  refine WL.step rfl (Stp.res rfl rfl (Res.assign rfl rfl) ?_)
  refine WL.nil (Thn_n ?_)
  refine CW.ret ?_
  exact fq_tmp rfl rfl ⟨rfl, rfl⟩

theorem times_ok (a b : UInt8) (w : World) : Calls Try.prog 9 #[byte a, byte b] w fun e w' => ∃ v, e = .returned v ∧ v = byte (Aes.times a b) ∧ w' = w := by
  refine enter (l := [byte a, byte b]) 19 Try.func9 rfl Try.ntmps9 rfl ?_
  refine CW.seq ?_
  refine CW.region ?_
  refine WL.step rfl (Stp.res rfl rfl (Res.assign (v := byte 0) rfl rfl) ?_)
  refine WL.nil (Thn_n ?_)
  refine CW.seq ?_
  refine CW.region ?_
  refine WL.step rfl (Stp.res rfl rfl (Res.assign (v := byte 0) rfl rfl) ?_)
  refine WL.nil (Thn_n ?_)
  refine CW.seq ?_
  refine CW.block ?_
  refine CW.loop (σ := Nat × UInt8 × UInt8 × UInt8) (fun s => [(0, byte s.2.1), (1, byte s.2.2.1), (5, byte s.2.2.2)])
    (fun s w' => w' = w ∧ s.2.2.1.toNat < 2 ^ s.1 ∧ Aes.timesF s.1 s.2.2.2 s.2.1 s.2.2.1 = Aes.times a b) (fun s => s.2.2.1.toNat) (8, a, b, 0) ⟨rfl, rfl, rfl, trivial⟩ ⟨rfl, b.toNat_lt, rfl⟩ ?_
  rintro ⟨k, a', b', p⟩ w' ⟨rfl, hI⟩
  dsimp only at hI ⊢
  refine CW.seq ?_
  refine CW.seq ?_
  refine CW.region ?_
  refine WL.step rfl (Stp.res rfl rfl (Res.move rfl rfl) ?_)
  refine WL.step rfl (Stp.res rfl rfl (Res.neqB 0 rfl rfl rfl) ?_)
  refine WL.nil (Thn_n ?_)
  refine CW.ite rfl (fun h => ?_) (fun h => ?_)
  · obtain ⟨hk, ht⟩ := hI
    refine CW.skip (Thn_n ?_)
    refine CW.seq ?_
    refine CW.block ?_
    refine CW.region ?_
    refine WL.step rfl (Stp.res rfl rfl (Res.move rfl rfl) ?_)
    refine WL.step rfl (Stp.res rfl rfl (Res.move rfl rfl) ?_)
    refine WL.step rfl (Stp.res rfl rfl (Res.move rfl rfl) ?_)
    refine WL.step rfl (Stp.res rfl rfl (Res.andB 1 rfl rfl rfl) ?_)
    refine WL.step rfl (Stp.res rfl rfl (Res.mulB _ rfl rfl rfl) ?_)
    refine WL.step rfl (Stp.res rfl rfl (Res.xorB _ rfl rfl rfl) ?_)
    refine WL.step rfl (Stp.res rfl rfl (Res.assign rfl rfl) ?_)
    refine WL.nil (Blk_n (Thn_n ?_))
    refine CW.region ?_
    refine WL.step rfl (Stp.res rfl rfl (Res.move rfl rfl) ?_)
    refine WL.step rfl (Stp.callA (args := [_]) rfl rfl rfl cal22 rfl rfl (twice_ok _ _) ?_)
    refine WL.step rfl (Stp.res rfl rfl (Res.move rfl rfl) ?_)
    refine WL.step rfl (Stp.res rfl rfl (Res.shrB 1 rfl rfl rfl (by decide)) ?_)
    refine WL.step rfl (Stp.res rfl rfl (Res.assign rfl rfl) ?_)
    refine WL.step rfl (Stp.res rfl rfl (Res.assign rfl rfl) ?_)
    refine WL.nil (Thn_n ?_)
    obtain ⟨k, rfl⟩ : ∃ m, k = m + 1 := ⟨k - 1, by
      have : k ≠ 0 := fun e => by subst e; have : b'.toNat = 0 := by omega
                                  exact h (UInt8.toNat_inj.1 this)
      omega⟩
    have hb := Aes.half b'
    have hpos : 0 < b'.toNat := Nat.pos_of_ne_zero fun e => h (UInt8.toNat_inj.1 e)
    refine ⟨(k, Aes.twice a', UInt8.ofNat (b'.toNat / 2 ^ 1), p ^^^ a' * (b' &&& 1)), ⟨rfl, rfl, rfl, trivial⟩, ⟨rfl, ?_, ?_⟩, ?_⟩
    · show (UInt8.ofNat (b'.toNat / 2 ^ 1)).toNat < 2 ^ k
      rw [hb, Nat.div_lt_iff_lt_mul (by decide)]; rw [Nat.pow_succ] at hk; exact hk
    · exact (Aes.timesF_step _ _ _ _ h).symm.trans ht
    · show (UInt8.ofNat (b'.toNat / 2 ^ 1)).toNat < b'.toNat
      omega
  · obtain ⟨hk, ht⟩ := hI
    refine CW.exit (Thn_x (Thn_x (Blk_x (Thn_n ?_))))
    refine CW.seq ?_
    refine CW.region ?_
    refine WL.step rfl (Stp.res rfl rfl (Res.move rfl rfl) ?_)
    refine WL.step rfl (Stp.res rfl rfl (Res.assign rfl rfl) ?_)
    refine WL.nil (Thn_n ?_)
    refine CW.ret ?_
    have h0 : b' = 0 := Decidable.not_not.1 h
    subst h0
    rw [Aes.timesF_zero] at ht
    exact fq_tmp rfl rfl ⟨by rw [← ht], rfl⟩

theorem box_ok  (w0 : World) (M : PH) (hM : On M w0)  : Ok Try.prog 23 #[] w0 M (fun M' v => M = M' ∧ v = .agg (bs Aes.boxL)) := by
  have hS := hM.st
  refine enterB (l := []) 2 Try.func23 rfl Try.ntmps23 rfl ?_
  refine CW.seq ?_
  refine CW.region ?_
  refine WL.step rfl (Stp.alloc (cs := bs (List.replicate 256 0)) rfl z41 rfl rfl rfl hS ?_)
  intro b0 w hb0 hS hkp hnw
  refine WL.nil (Thn_n ?_)
  refine CW.seq ?_
  refine CW.region ?_
  refine WL.step rfl (Stp.res rfl rfl (Res.build (vals := tabV Aes.boxL) (cs := bs Aes.boxL) rfl (by kernel_rfl) (fun _ => by kernel_rfl)) ?_)
  refine WL.step rfl (Stp.storeAllB 0 rfl rfl rfl sz41 rfl hS rfl (by exact ⟨List.length_replicate .., Aes.boxL_len⟩) ?_)
  intro w hS hpt
  refine WL.nil (Thn_n ?_)
  refine CW.ret ?_
  exact fq_cell rfl rfl (hS.get (i := 0) rfl) Try.underlying41 rfl (by rw [size_bs, Aes.boxL_len]; exact sz41) ⟨M, hS.drop (i := 0) rfl hb0, PH.le.refl _, Fresh.refl _ _, rfl, rfl⟩

theorem substitute_ok (x : UInt8) (w0 : World) (M : PH) (hM : On M w0)  : Ok Try.prog 10 #[byte x] w0 M (fun M' v => M = M' ∧ v = byte (Aes.sub x)) := by
  have hS := hM.st
  refine enterB (l := [byte x]) 6 Try.func10 rfl Try.ntmps10 rfl ?_
  refine CW.seq ?_
  refine CW.region ?_
  refine WL.step rfl (Stp.res rfl rfl (Res.assign (v := byte 0) rfl rfl) ?_)
  refine WL.nil (Thn_n ?_)
  refine CW.seq ?_
  refine CW.region ?_
  refine WL.step rfl (Stp.callB (args := []) rfl rfl rfl cal23 rfl rfl hS (box_ok _ _ hS.on) ?_)
  rintro _ w _ hS _ _ hkp ⟨rfl, rfl⟩
  refine WL.step rfl (Stp.res rfl rfl (Res.move rfl rfl) ?_)
  refine WL.step rfl (Stp.res rfl rfl (Res.index1 rfl rfl rfl Try.underlying41 sz5 Try.underlying5 rfl (by first | exact Int.toNat_natCast _ | rfl) (by exact ⟨by omega, by have := x.toNat_lt; omega⟩) (bs_get (by rw [Aes.boxL_len]; exact x.toNat_lt))) ?_)
  refine WL.step rfl (Stp.res rfl rfl (Res.assign rfl rfl) ?_)
  refine WL.nil (Thn_n ?_)
  refine CW.ret ?_
  exact fq_tmp rfl rfl ⟨M, hS, PH.le.refl _, Fresh.refl _ _, rfl, rfl⟩

theorem xor_ok (l k : List UInt8) (T : TypeId) (w0 : World) (M : PH) (hM : On M w0) (b : Nat) (hb : w0.heap[b]? = some (.cells (bs l) T (0, 0))) (hmb : M b = none) (hl : l.length = 16) (hk : k.length = 16) : OkO Try.prog 25 #[.pointer (some ⟨b, 0, none⟩), .agg (bs k)] w0 M b (fun M' o' v => M = M' ∧ o' = .cells (bs (Aes.xorB l k)) T (0, 0) ∧ v = .tuple #[]) := by
  have hS := hM.st1 hb hmb
  refine enterO (l := [.pointer (some ⟨b, 0, none⟩), .agg (bs k)]) 20 Try.func25 rfl Try.ntmps25 rfl ?_
  refine CW.seq ?_
  refine CW.region ?_
  refine WL.step rfl (Stp.boxA rfl rfl rfl rfl hS ?_)
  intro b3 w hb3 hS hkp hnw
  refine WL.nil (Thn_n ?_)
  refine CW.seq ?_
  refine CW.region ?_
  refine WL.step rfl (Stp.res rfl rfl (Res.move rfl rfl) ?_)
  refine WL.nil (Thn_n ?_)
  refine CW.block ?_
  refine CW.loop (σ := Nat) (fun i => [(0, .pointer (some ⟨b, 0, none⟩)), (3, .pointer (some ⟨b3, 0, none⟩)), (5, .int .i64 i)])
    (fun i w' => i ≤ 16 ∧ St w0 w' M [(b3, .cells (bs k) 29 (0, 0)), (b, .cells (bs (Aes.upTo i (fun j => l.getD j 0 ^^^ k.getD j 0) l)) T (0, 0))]) (fun i => 16 - i) 0 ⟨rfl, rfl, rfl, trivial⟩ ⟨by omega, by rw [Aes.upTo_zero]; exact hS⟩ ?_
  rintro i w1 ⟨hi, hS⟩
  refine CW.seq ?_
  refine CW.region ?_
  refine WL.step rfl (Stp.res rfl rfl (Res.lss rfl rfl rfl) ?_)
  refine WL.nil (Thn_n ?_)
  refine CW.seq ?_
  refine CW.ite rfl (fun h => ?_) (fun h => ?_)
  · obtain hlt : i < 16 := by omega
    refine CW.skip (Thn_n ?_)
    refine CW.seq ?_
    refine CW.block ?_
    refine CW.seq ?_
    refine CW.region ?_
    refine WL.step rfl (Stp.res rfl rfl (Res.move rfl rfl) ?_)
    refine WL.step rfl (Stp.res rfl rfl (Res.assign rfl rfl) ?_)
    refine WL.nil (Thn_n ?_)
    have hS := hS.drew
    refine CW.tail 11 mixed (by kernel_rfl) ?_
    refine SL.step rfl rfl rfl (Res.move rfl rfl) ?_
    refine SL.step rfl rfl rfl (Res.move rfl rfl) ?_
    refine SL.step rfl rfl rfl (Res.nilCheck rfl rfl) ?_
    first | refine SL.step rfl rfl rfl (Res.idxA0 rfl rfl rfl Try.underlying54 sz5 (by first | exact Int.toNat_natCast _ | rfl) (by omega)) ?_ | refine SL.step rfl rfl rfl (Res.idxA1 rfl rfl rfl Try.underlying54 sz5 (by first | exact Int.toNat_natCast _ | rfl) (by omega)) ?_
    refine SL.step rfl rfl rfl (Res.load1 rfl rfl Try.underlying5 rfl (by first | exact hS.ocell (i := 0) rfl (bs_get (by first | omega | (simp; omega))) | exact hS.ocell (i := 1) rfl (bs_get (by first | omega | (simp; omega))))) ?_
    refine SL.step rfl rfl rfl (Res.move rfl rfl) ?_
    first | refine SL.step rfl rfl rfl (Res.idxA0 rfl rfl rfl Try.underlying29 sz5 (by first | exact Int.toNat_natCast _ | rfl) (by omega)) ?_ | refine SL.step rfl rfl rfl (Res.idxA1 rfl rfl rfl Try.underlying29 sz5 (by first | exact Int.toNat_natCast _ | rfl) (by omega)) ?_
    refine SL.step rfl rfl rfl (Res.load1 rfl rfl Try.underlying5 rfl (by first | exact hS.ocell (i := 0) rfl (bs_get (by first | omega | (simp; omega))) | exact hS.ocell (i := 1) rfl (bs_get (by first | omega | (simp; omega))))) ?_
    refine SL.step rfl rfl rfl (Res.xorB _ rfl rfl rfl) ?_
    refine SL.step rfl rfl rfl (Res.nilCheck rfl rfl) ?_
    first | refine SL.step rfl rfl rfl (Res.idxA0 rfl rfl rfl Try.underlying54 sz5 (by first | exact Int.toNat_natCast _ | rfl) (by omega)) ?_ | refine SL.step rfl rfl rfl (Res.idxA1 rfl rfl rfl Try.underlying54 sz5 (by first | exact Int.toNat_natCast _ | rfl) (by omega)) ?_
    refine SL.nil ?_
    first | refine WL.step rfl (Stp.storeB 0 rfl rfl rfl sz5 rfl hS rfl (by first | omega | (simp; omega)) ?_) | refine WL.step rfl (Stp.storeB 1 rfl rfl rfl sz5 rfl hS rfl (by first | omega | (simp; omega)) ?_)
    intro w hS hpt
    refine WL.nil (Blk_n (Thn_n ?_))
    refine CW.region ?_
    refine WL.step rfl (Stp.res rfl rfl (Res.add rfl rfl rfl (by omega)) ?_)
    refine WL.step rfl (Stp.res rfl rfl (Res.move rfl rfl) ?_)
    refine WL.nil (Thn_n ?_)
    refine ⟨i + 1, ⟨rfl, rfl, rfl, trivial⟩, ⟨by omega, ?_⟩, by omega⟩
    rw [Aes.upTo_getD _ _ _ _ (by omega), if_neg (by omega)] at hS
    rw [← Aes.upTo_set]
    exact hS
  · obtain rfl : i = 16 := by omega
    refine CW.exit (Thn_x (Thn_x (Blk_x ?_)))
    rw [Aes.upTo_all _ _ 16 hl] at hS
    exact fq_none rfl ⟨M, _, hS.drop (i := 0) rfl hb3, PH.le.refl _, Fresh.refl _ _, rfl, rfl, rfl⟩

theorem turn1_ok (l : List UInt8) (T : TypeId) (w0 : World) (M : PH) (hM : On M w0) (b : Nat) (hb : w0.heap[b]? = some (.cells (bs l) T (0, 0))) (hmb : M b = none) (hl : l.length = 16) : OkO Try.prog 26 #[.pointer (some ⟨b, 0, none⟩), .int .i64 1] w0 M b (fun M' o' v => M = M' ∧ o' = .cells (bs (Aes.turnB 1 l)) T (0, 0) ∧ v = .tuple #[]) := by
  have hS := hM.st1 hb hmb
  refine enterO (l := [.pointer (some ⟨b, 0, none⟩), .int .i64 1]) 27 Try.func26 rfl Try.ntmps26 rfl ?_
  refine CW.seq ?_
  refine CW.region ?_
  refine WL.step rfl (Stp.res rfl rfl (Res.move rfl rfl) ?_)
  refine WL.step rfl (Stp.res rfl rfl (Res.nilCheck rfl rfl) ?_)
  refine WL.step rfl (Stp.res rfl rfl (Res.loadAll rfl rfl Try.underlying54 rfl (by rw [size_bs, hl]; exact sz54) (hS.get (i := 0) rfl)) ?_)
  refine WL.step rfl (Stp.alloc (cs := bs (List.replicate 16 0)) rfl z54 rfl rfl rfl hS ?_)
  intro b4 w hb4 hS hkp hnw
  first | refine WL.step rfl (Stp.storeAllB 0 rfl rfl rfl sz54 rfl hS rfl (by first | omega | (simp; omega)) ?_) | refine WL.step rfl (Stp.storeAllB 1 rfl rfl rfl sz54 rfl hS rfl (by first | omega | (simp; omega)) ?_)
  intro w hS hpt
  refine WL.nil (Thn_n ?_)
  refine CW.seq ?_
  refine CW.region ?_
  refine WL.step rfl (Stp.res rfl rfl (Res.move rfl rfl) ?_)
  refine WL.nil (Thn_n ?_)
  refine CW.block ?_
  refine CW.loop (σ := Nat) (fun i => [(0, .pointer (some ⟨b, 0, none⟩)), (1, .int .i64 1), (4, .pointer (some ⟨b4, 0, none⟩)), (9, .int .i64 i)])
    (fun i w' => i ≤ 16 ∧ St w0 w' M [(b4, .cells (bs l) 54 (0, 0)), (b, .cells (bs (Aes.upTo i (fun j => l.getD ((j + 4 * 1 * (j % 4)) % 16) 0) l)) T (0, 0))]) (fun i => 16 - i) 0 ⟨rfl, rfl, rfl, rfl, trivial⟩ ⟨by omega, by rw [Aes.upTo_zero]; exact hS⟩ ?_
  rintro i w1 ⟨hi, hS⟩
  refine CW.seq ?_
  refine CW.region ?_
  refine WL.step rfl (Stp.res rfl rfl (Res.lss rfl rfl rfl) ?_)
  refine WL.nil (Thn_n ?_)
  refine CW.seq ?_
  refine CW.ite rfl (fun h => ?_) (fun h => ?_)
  · obtain hlt : i < 16 := by omega
    refine CW.skip (Thn_n ?_)
    refine CW.seq ?_
    refine CW.block ?_
    refine CW.seq ?_
    refine CW.region ?_
    refine WL.step rfl (Stp.res rfl rfl (Res.move rfl rfl) ?_)
    refine WL.step rfl (Stp.res rfl rfl (Res.assign rfl rfl) ?_)
    refine WL.nil (Thn_n ?_)
    have hS := hS.drew
    refine CW.tail 14 mixed (by kernel_rfl) ?_
    refine SL.step rfl rfl rfl (Res.move rfl rfl) ?_
    refine SL.step rfl rfl rfl (Res.move rfl rfl) ?_
    refine SL.step rfl rfl rfl (Res.move rfl rfl) ?_
    refine SL.step rfl rfl rfl (Res.move rfl rfl) ?_
    refine SL.step rfl rfl rfl (Res.mul rfl rfl rfl (by omega)) ?_
    refine SL.step rfl rfl rfl (Res.move rfl rfl) ?_
    refine SL.step rfl rfl rfl (Res.rem rfl rfl rfl (by omega)) ?_
    refine SL.step rfl rfl rfl (Res.mul rfl rfl rfl (by omega)) ?_
    refine SL.step rfl rfl rfl (Res.add rfl rfl rfl (by omega)) ?_
    refine SL.step rfl rfl rfl (Res.rem rfl rfl rfl (by omega)) ?_
    refine SL.step rfl rfl rfl (Res.idxA0 (k := (i + 4 * 1 * (i % 4)) % 16) rfl rfl rfl Try.underlying54 sz5 (by omega) (by omega)) ?_
    refine SL.step rfl rfl rfl (Res.load1 rfl rfl Try.underlying5 rfl (by first | exact hS.ocell (i := 0) rfl (bs_get (by first | omega | (simp; omega))) | exact hS.ocell (i := 1) rfl (bs_get (by first | omega | (simp; omega))))) ?_
    refine SL.step rfl rfl rfl (Res.nilCheck rfl rfl) ?_
    first | refine SL.step rfl rfl rfl (Res.idxA0 rfl rfl rfl Try.underlying54 sz5 (by first | exact Int.toNat_natCast _ | rfl) (by omega)) ?_ | refine SL.step rfl rfl rfl (Res.idxA1 rfl rfl rfl Try.underlying54 sz5 (by first | exact Int.toNat_natCast _ | rfl) (by omega)) ?_
    refine SL.nil ?_
    first | refine WL.step rfl (Stp.storeB 0 rfl rfl rfl sz5 rfl hS rfl (by first | omega | (simp; omega)) ?_) | refine WL.step rfl (Stp.storeB 1 rfl rfl rfl sz5 rfl hS rfl (by first | omega | (simp; omega)) ?_)
    intro w hS hpt
    refine WL.nil (Blk_n (Thn_n ?_))
    refine CW.region ?_
    refine WL.step rfl (Stp.res rfl rfl (Res.add rfl rfl rfl (by omega)) ?_)
    refine WL.step rfl (Stp.res rfl rfl (Res.move rfl rfl) ?_)
    refine WL.nil (Thn_n ?_)
    refine ⟨i + 1, ⟨rfl, rfl, rfl, rfl, trivial⟩, ⟨by omega, ?_⟩, by omega⟩
    rw [← Aes.upTo_set]
    exact hS
  · obtain rfl : i = 16 := by omega
    refine CW.exit (Thn_x (Thn_x (Blk_x ?_)))
    rw [Aes.upTo_all _ _ 16 hl] at hS
    exact fq_none rfl ⟨M, _, hS.drop (i := 0) rfl hb4, PH.le.refl _, Fresh.refl _ _, rfl, rfl, rfl⟩

theorem turn3_ok (l : List UInt8) (T : TypeId) (w0 : World) (M : PH) (hM : On M w0) (b : Nat) (hb : w0.heap[b]? = some (.cells (bs l) T (0, 0))) (hmb : M b = none) (hl : l.length = 16) : OkO Try.prog 26 #[.pointer (some ⟨b, 0, none⟩), .int .i64 3] w0 M b (fun M' o' v => M = M' ∧ o' = .cells (bs (Aes.turnB 3 l)) T (0, 0) ∧ v = .tuple #[]) := by
  have hS := hM.st1 hb hmb
  refine enterO (l := [.pointer (some ⟨b, 0, none⟩), .int .i64 3]) 27 Try.func26 rfl Try.ntmps26 rfl ?_
  refine CW.seq ?_
  refine CW.region ?_
  refine WL.step rfl (Stp.res rfl rfl (Res.move rfl rfl) ?_)
  refine WL.step rfl (Stp.res rfl rfl (Res.nilCheck rfl rfl) ?_)
  refine WL.step rfl (Stp.res rfl rfl (Res.loadAll rfl rfl Try.underlying54 rfl (by rw [size_bs, hl]; exact sz54) (hS.get (i := 0) rfl)) ?_)
  refine WL.step rfl (Stp.alloc (cs := bs (List.replicate 16 0)) rfl z54 rfl rfl rfl hS ?_)
  intro b4 w hb4 hS hkp hnw
  first | refine WL.step rfl (Stp.storeAllB 0 rfl rfl rfl sz54 rfl hS rfl (by first | omega | (simp; omega)) ?_) | refine WL.step rfl (Stp.storeAllB 1 rfl rfl rfl sz54 rfl hS rfl (by first | omega | (simp; omega)) ?_)
  intro w hS hpt
  refine WL.nil (Thn_n ?_)
  refine CW.seq ?_
  refine CW.region ?_
  refine WL.step rfl (Stp.res rfl rfl (Res.move rfl rfl) ?_)
  refine WL.nil (Thn_n ?_)
  refine CW.block ?_
  refine CW.loop (σ := Nat) (fun i => [(0, .pointer (some ⟨b, 0, none⟩)), (1, .int .i64 3), (4, .pointer (some ⟨b4, 0, none⟩)), (9, .int .i64 i)])
    (fun i w' => i ≤ 16 ∧ St w0 w' M [(b4, .cells (bs l) 54 (0, 0)), (b, .cells (bs (Aes.upTo i (fun j => l.getD ((j + 4 * 3 * (j % 4)) % 16) 0) l)) T (0, 0))]) (fun i => 16 - i) 0 ⟨rfl, rfl, rfl, rfl, trivial⟩ ⟨by omega, by rw [Aes.upTo_zero]; exact hS⟩ ?_
  rintro i w1 ⟨hi, hS⟩
  refine CW.seq ?_
  refine CW.region ?_
  refine WL.step rfl (Stp.res rfl rfl (Res.lss rfl rfl rfl) ?_)
  refine WL.nil (Thn_n ?_)
  refine CW.seq ?_
  refine CW.ite rfl (fun h => ?_) (fun h => ?_)
  · obtain hlt : i < 16 := by omega
    refine CW.skip (Thn_n ?_)
    refine CW.seq ?_
    refine CW.block ?_
    refine CW.seq ?_
    refine CW.region ?_
    refine WL.step rfl (Stp.res rfl rfl (Res.move rfl rfl) ?_)
    refine WL.step rfl (Stp.res rfl rfl (Res.assign rfl rfl) ?_)
    refine WL.nil (Thn_n ?_)
    have hS := hS.drew
    refine CW.tail 14 mixed (by kernel_rfl) ?_
    refine SL.step rfl rfl rfl (Res.move rfl rfl) ?_
    refine SL.step rfl rfl rfl (Res.move rfl rfl) ?_
    refine SL.step rfl rfl rfl (Res.move rfl rfl) ?_
    refine SL.step rfl rfl rfl (Res.move rfl rfl) ?_
    refine SL.step rfl rfl rfl (Res.mul rfl rfl rfl (by omega)) ?_
    refine SL.step rfl rfl rfl (Res.move rfl rfl) ?_
    refine SL.step rfl rfl rfl (Res.rem rfl rfl rfl (by omega)) ?_
    refine SL.step rfl rfl rfl (Res.mul rfl rfl rfl (by omega)) ?_
    refine SL.step rfl rfl rfl (Res.add rfl rfl rfl (by omega)) ?_
    refine SL.step rfl rfl rfl (Res.rem rfl rfl rfl (by omega)) ?_
    refine SL.step rfl rfl rfl (Res.idxA0 (k := (i + 4 * 3 * (i % 4)) % 16) rfl rfl rfl Try.underlying54 sz5 (by omega) (by omega)) ?_
    refine SL.step rfl rfl rfl (Res.load1 rfl rfl Try.underlying5 rfl (by first | exact hS.ocell (i := 0) rfl (bs_get (by first | omega | (simp; omega))) | exact hS.ocell (i := 1) rfl (bs_get (by first | omega | (simp; omega))))) ?_
    refine SL.step rfl rfl rfl (Res.nilCheck rfl rfl) ?_
    first | refine SL.step rfl rfl rfl (Res.idxA0 rfl rfl rfl Try.underlying54 sz5 (by first | exact Int.toNat_natCast _ | rfl) (by omega)) ?_ | refine SL.step rfl rfl rfl (Res.idxA1 rfl rfl rfl Try.underlying54 sz5 (by first | exact Int.toNat_natCast _ | rfl) (by omega)) ?_
    refine SL.nil ?_
    first | refine WL.step rfl (Stp.storeB 0 rfl rfl rfl sz5 rfl hS rfl (by first | omega | (simp; omega)) ?_) | refine WL.step rfl (Stp.storeB 1 rfl rfl rfl sz5 rfl hS rfl (by first | omega | (simp; omega)) ?_)
    intro w hS hpt
    refine WL.nil (Blk_n (Thn_n ?_))
    refine CW.region ?_
    refine WL.step rfl (Stp.res rfl rfl (Res.add rfl rfl rfl (by omega)) ?_)
    refine WL.step rfl (Stp.res rfl rfl (Res.move rfl rfl) ?_)
    refine WL.nil (Thn_n ?_)
    refine ⟨i + 1, ⟨rfl, rfl, rfl, rfl, trivial⟩, ⟨by omega, ?_⟩, by omega⟩
    rw [← Aes.upTo_set]
    exact hS
  · obtain rfl : i = 16 := by omega
    refine CW.exit (Thn_x (Thn_x (Blk_x ?_)))
    rw [Aes.upTo_all _ _ 16 hl] at hS
    exact fq_none rfl ⟨M, _, hS.drop (i := 0) rfl hb4, PH.le.refl _, Fresh.refl _ _, rfl, rfl, rfl⟩
end Go.Proofs.Ytanogodfnfkkbaa
