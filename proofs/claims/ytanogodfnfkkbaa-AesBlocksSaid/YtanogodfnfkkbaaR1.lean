/- Own text of this seat (R1): lemmas on the way to the statement; no condition of its own. -/
import Derived.Test.YtanogodfnfkkbaaR0
set_option linter.unusedVariables false
namespace Go.Proofs.Ytanogodfnfkkbaa
open Go Go.E
theorem rtimes_ok (a b : UInt8) (w : World) : Calls Try.prog 12 #[byte a, byte b] w fun e w' => ∃ v, e = .returned v ∧ v = byte (Aes.times a b) ∧ w' = w := by
  refine enter (l := [byte a, byte b]) 30 Try.func12 rfl Try.ntmps12 rfl ?_
  refine CW.seq ?_
  refine CW.region ?_
  refine WL.step rfl (Stp.res rfl rfl (Res.assign (v := byte 0) rfl rfl) ?_)
  refine WL.nil (Thn_n ?_)
  refine CW.seq ?_
  refine CW.region ?_
  refine WL.step rfl (Stp.res rfl rfl (Res.move rfl rfl) ?_)
  refine WL.step rfl (Stp.res rfl rfl (Res.convUp rfl rfl Try.underlying5 Try.underlying3) ?_)
  refine WL.step rfl (Stp.res rfl rfl (Res.assign rfl rfl) ?_)
  refine WL.step rfl (Stp.res rfl rfl (Res.assign rfl rfl) ?_)
  refine WL.nil (Thn_n ?_)
  refine CW.seq ?_
  refine CW.seq ?_
  refine CW.region ?_
  refine WL.step rfl (Stp.res rfl rfl (Res.move rfl rfl) ?_)
  refine WL.step rfl (Stp.res rfl rfl (Res.convUp rfl rfl Try.underlying5 Try.underlying3) ?_)
  refine WL.step rfl (Stp.res rfl rfl (Res.assign rfl rfl) ?_)
  refine WL.nil (Thn_n ?_)
  refine CW.block ?_
  refine CW.loop (σ := Nat × UInt8 × UInt8 × UInt8) (fun s => [(5, .int .i64 (s.2.2.2.toNat : Int)), (6, .int .i64 (s.2.1.toNat : Int)), (7, .int .i64 (s.2.2.1.toNat : Int))])
    (fun s w' => w' = w ∧ s.2.2.1.toNat < 2 ^ s.1 ∧ Aes.timesF s.1 s.2.2.2 s.2.1 s.2.2.1 = Aes.times a b) (fun s => s.2.2.1.toNat) (8, a, b, 0) ⟨rfl, rfl, rfl, trivial⟩ ⟨rfl, b.toNat_lt, rfl⟩ ?_
  rintro ⟨k, a', b', p⟩ w' ⟨rfl, hk, ht⟩
  dsimp only at hk ht ⊢
  have ha8 := a'.toNat_lt
  have hb8 := b'.toNat_lt
  refine CW.seq ?_
  refine CW.seq ?_
  refine CW.region ?_
  refine WL.step rfl (Stp.res rfl rfl (Res.move rfl rfl) ?_)
  refine WL.step rfl (Stp.res rfl rfl (Res.gtr rfl rfl rfl) ?_)
  refine WL.nil (Thn_n ?_)
  refine CW.ite rfl (fun h => ?_) (fun h => ?_)
  · have hp : 0 < b'.toNat := by omega
    refine CW.skip (Thn_n ?_)
    refine CW.seq ?_
    refine CW.block ?_
    refine CW.seq ?_
    refine CW.seq ?_
    refine CW.region ?_
    refine WL.step rfl (Stp.res rfl rfl (Res.move rfl rfl) ?_)
    refine WL.step rfl (Stp.res rfl rfl (Res.rem rfl rfl rfl (by omega)) ?_)
    refine WL.step rfl (Stp.res rfl rfl (Res.eql rfl rfl rfl) ?_)
    refine WL.nil (Thn_n ?_)
    refine CW.ite rfl (fun h2 => ?_) (fun h2 => ?_)
    · have hp5 : ((p.toNat ^^^ a'.toNat : Nat) : Int) = ((p ^^^ a' * (b' &&& 1)).toNat : Int) := by rw [Aes.odd_step p a' b' (by omega), UInt8.toNat_xor]
      refine CW.region ?_
      refine WL.step rfl (Stp.res rfl rfl (Res.move rfl rfl) ?_)
      refine WL.step rfl (Stp.res rfl rfl (Res.move rfl rfl) ?_)
      refine WL.step rfl (Stp.res rfl rfl (Res.xorI (a := p.toNat) (b := a'.toNat) rfl rfl rfl ⟨by have := UInt8.toNat_lt p; omega, by have := UInt8.toNat_lt a'; omega⟩) ?_)
      refine WL.step rfl (Stp.res rfl rfl (Res.assign rfl rfl) ?_)
      refine WL.nil (Thn_n ?_)
      refine CW.seq ?_
      refine CW.region ?_
      refine WL.step rfl (Stp.res rfl rfl (Res.move rfl rfl) ?_)
      refine WL.step rfl (Stp.res rfl rfl (Res.mul rfl rfl rfl (by omega)) ?_)
      refine WL.step rfl (Stp.res rfl rfl (Res.assign rfl rfl) ?_)
      refine WL.nil (Thn_n ?_)
      refine CW.seq ?_
      refine CW.region ?_
      refine WL.step rfl (Stp.res rfl rfl (Res.move rfl rfl) ?_)
      refine WL.step rfl (Stp.res rfl rfl (Res.geq rfl rfl rfl) ?_)
      refine WL.nil (Thn_n ?_)
      refine CW.ite rfl (fun h3 => ?_) (fun h3 => ?_)
      · have ha6 : ((2 * a'.toNat ^^^ 283 : Nat) : Int) = ((Aes.twice a').toNat : Int) := by rw [Aes.twice_big a' (by omega)]
        refine CW.region ?_
        refine WL.step rfl (Stp.res rfl rfl (Res.move rfl rfl) ?_)
        refine WL.step rfl (Stp.res rfl rfl (Res.xorI (a := 2 * a'.toNat) (b := 283) rfl rfl rfl ⟨by have := UInt8.toNat_lt a'; omega, by decide⟩) ?_)
        refine WL.step rfl (Stp.res rfl rfl (Res.assign rfl rfl) ?_)
        refine WL.nil (Blk_n (Thn_n ?_))
        refine CW.region ?_
        refine WL.step rfl (Stp.res rfl rfl (Res.move rfl rfl) ?_)
        refine WL.step rfl (Stp.res rfl rfl (Res.quo rfl rfl rfl (by omega)) ?_)
        refine WL.step rfl (Stp.res rfl rfl (Res.assign rfl rfl) ?_)
        refine WL.nil (Thn_n ?_)
        obtain ⟨k, rfl⟩ : ∃ m, k = m + 1 := ⟨k - 1, by
          have : k ≠ 0 := fun e => by subst e; omega
          omega⟩
        have hb := Aes.half b'
        have hne : ¬ b' = 0 := fun e => by rw [e] at hp; exact absurd hp (by decide)
        refine ⟨(k, Aes.twice a', UInt8.ofNat (b'.toNat / 2 ^ 1), p ^^^ a' * (b' &&& 1)), ⟨i64c hp5, i64c ha6, i64c (by dsimp only; rw [hb]; omega), trivial⟩, ⟨rfl, ?_, ?_⟩, ?_⟩
        · show (UInt8.ofNat (b'.toNat / 2 ^ 1)).toNat < 2 ^ k
          rw [hb, Nat.div_lt_iff_lt_mul (by decide)]; rw [Nat.pow_succ] at hk; exact hk
        · exact (Aes.timesF_step _ _ _ _ hne).symm.trans ht
        · show (UInt8.ofNat (b'.toNat / 2 ^ 1)).toNat < b'.toNat
          omega
      · have ha6 : 2 * (a'.toNat : Int) = ((Aes.twice a').toNat : Int) := by have := Aes.twice_small a' (by omega); omega
        refine CW.skip (Blk_n (Thn_n ?_))
        refine CW.region ?_
        refine WL.step rfl (Stp.res rfl rfl (Res.move rfl rfl) ?_)
        refine WL.step rfl (Stp.res rfl rfl (Res.quo rfl rfl rfl (by omega)) ?_)
        refine WL.step rfl (Stp.res rfl rfl (Res.assign rfl rfl) ?_)
        refine WL.nil (Thn_n ?_)
        obtain ⟨k, rfl⟩ : ∃ m, k = m + 1 := ⟨k - 1, by
          have : k ≠ 0 := fun e => by subst e; omega
          omega⟩
        have hb := Aes.half b'
        have hne : ¬ b' = 0 := fun e => by rw [e] at hp; exact absurd hp (by decide)
        refine ⟨(k, Aes.twice a', UInt8.ofNat (b'.toNat / 2 ^ 1), p ^^^ a' * (b' &&& 1)), ⟨i64c hp5, i64c ha6, i64c (by dsimp only; rw [hb]; omega), trivial⟩, ⟨rfl, ?_, ?_⟩, ?_⟩
        · show (UInt8.ofNat (b'.toNat / 2 ^ 1)).toNat < 2 ^ k
          rw [hb, Nat.div_lt_iff_lt_mul (by decide)]; rw [Nat.pow_succ] at hk; exact hk
        · exact (Aes.timesF_step _ _ _ _ hne).symm.trans ht
        · show (UInt8.ofNat (b'.toNat / 2 ^ 1)).toNat < b'.toNat
          omega
    · have hp5 : (p.toNat : Int) = ((p ^^^ a' * (b' &&& 1)).toNat : Int) := by rw [Aes.even_step p a' b' (by omega)]
      refine CW.skip (Thn_n ?_)
      refine CW.seq ?_
      refine CW.region ?_
      refine WL.step rfl (Stp.res rfl rfl (Res.move rfl rfl) ?_)
      refine WL.step rfl (Stp.res rfl rfl (Res.mul rfl rfl rfl (by omega)) ?_)
      refine WL.step rfl (Stp.res rfl rfl (Res.assign rfl rfl) ?_)
      refine WL.nil (Thn_n ?_)
      refine CW.seq ?_
      refine CW.region ?_
      refine WL.step rfl (Stp.res rfl rfl (Res.move rfl rfl) ?_)
      refine WL.step rfl (Stp.res rfl rfl (Res.geq rfl rfl rfl) ?_)
      refine WL.nil (Thn_n ?_)
      refine CW.ite rfl (fun h3 => ?_) (fun h3 => ?_)
      · have ha6 : ((2 * a'.toNat ^^^ 283 : Nat) : Int) = ((Aes.twice a').toNat : Int) := by rw [Aes.twice_big a' (by omega)]
        refine CW.region ?_
        refine WL.step rfl (Stp.res rfl rfl (Res.move rfl rfl) ?_)
        refine WL.step rfl (Stp.res rfl rfl (Res.xorI (a := 2 * a'.toNat) (b := 283) rfl rfl rfl ⟨by have := UInt8.toNat_lt a'; omega, by decide⟩) ?_)
        refine WL.step rfl (Stp.res rfl rfl (Res.assign rfl rfl) ?_)
        refine WL.nil (Blk_n (Thn_n ?_))
        refine CW.region ?_
        refine WL.step rfl (Stp.res rfl rfl (Res.move rfl rfl) ?_)
        refine WL.step rfl (Stp.res rfl rfl (Res.quo rfl rfl rfl (by omega)) ?_)
        refine WL.step rfl (Stp.res rfl rfl (Res.assign rfl rfl) ?_)
        refine WL.nil (Thn_n ?_)
        obtain ⟨k, rfl⟩ : ∃ m, k = m + 1 := ⟨k - 1, by
          have : k ≠ 0 := fun e => by subst e; omega
          omega⟩
        have hb := Aes.half b'
        have hne : ¬ b' = 0 := fun e => by rw [e] at hp; exact absurd hp (by decide)
        refine ⟨(k, Aes.twice a', UInt8.ofNat (b'.toNat / 2 ^ 1), p ^^^ a' * (b' &&& 1)), ⟨i64c hp5, i64c ha6, i64c (by dsimp only; rw [hb]; omega), trivial⟩, ⟨rfl, ?_, ?_⟩, ?_⟩
        · show (UInt8.ofNat (b'.toNat / 2 ^ 1)).toNat < 2 ^ k
          rw [hb, Nat.div_lt_iff_lt_mul (by decide)]; rw [Nat.pow_succ] at hk; exact hk
        · exact (Aes.timesF_step _ _ _ _ hne).symm.trans ht
        · show (UInt8.ofNat (b'.toNat / 2 ^ 1)).toNat < b'.toNat
          omega
      · have ha6 : 2 * (a'.toNat : Int) = ((Aes.twice a').toNat : Int) := by have := Aes.twice_small a' (by omega); omega
        refine CW.skip (Blk_n (Thn_n ?_))
        refine CW.region ?_
        refine WL.step rfl (Stp.res rfl rfl (Res.move rfl rfl) ?_)
        refine WL.step rfl (Stp.res rfl rfl (Res.quo rfl rfl rfl (by omega)) ?_)
        refine WL.step rfl (Stp.res rfl rfl (Res.assign rfl rfl) ?_)
        refine WL.nil (Thn_n ?_)
        obtain ⟨k, rfl⟩ : ∃ m, k = m + 1 := ⟨k - 1, by
          have : k ≠ 0 := fun e => by subst e; omega
          omega⟩
        have hb := Aes.half b'
        have hne : ¬ b' = 0 := fun e => by rw [e] at hp; exact absurd hp (by decide)
        refine ⟨(k, Aes.twice a', UInt8.ofNat (b'.toNat / 2 ^ 1), p ^^^ a' * (b' &&& 1)), ⟨i64c hp5, i64c ha6, i64c (by dsimp only; rw [hb]; omega), trivial⟩, ⟨rfl, ?_, ?_⟩, ?_⟩
        · show (UInt8.ofNat (b'.toNat / 2 ^ 1)).toNat < 2 ^ k
          rw [hb, Nat.div_lt_iff_lt_mul (by decide)]; rw [Nat.pow_succ] at hk; exact hk
        · exact (Aes.timesF_step _ _ _ _ hne).symm.trans ht
        · show (UInt8.ofNat (b'.toNat / 2 ^ 1)).toNat < b'.toNat
          omega
  · refine CW.exit (Thn_x (Thn_x (Blk_x (Thn_n ?_))))
    refine CW.seq ?_
    refine CW.region ?_
    refine WL.step rfl (Stp.res rfl rfl (Res.move rfl rfl) ?_)
    refine WL.step rfl (Stp.res rfl rfl (Res.convB (k := p.toNat) rfl rfl Try.underlying3 Try.underlying5) ?_)
    refine WL.step rfl (Stp.res rfl rfl (Res.assign rfl rfl) ?_)
    refine WL.nil (Thn_n ?_)
    refine CW.ret ?_
    have h0 : b' = 0 := UInt8.toNat_inj.1 (by have : b'.toNat = 0 := by omega
                                              rw [this]; rfl)
    subst h0
    rw [Aes.timesF_zero] at ht
    exact fq_tmp rfl rfl ⟨by rw [UInt8.ofNat_toNat, ← ht], rfl⟩

theorem rsub_ok (x : UInt8) (w : World) : Calls Try.prog 11 #[byte x] w fun e w' => ∃ v, e = .returned v ∧ v = byte (Aes.sub x) ∧ w' = w := by
  refine enter (l := [byte x]) 35 Try.func11 rfl Try.ntmps11 rfl ?_
  refine CW.seq ?_
  refine CW.region ?_
  refine WL.step rfl (Stp.res rfl rfl (Res.assign (v := byte 0) rfl rfl) ?_)
  refine WL.nil (Thn_n ?_)
  refine CW.seq ?_
  refine CW.region ?_
  refine WL.step rfl (Stp.res rfl rfl (Res.assign (v := byte 0) rfl rfl) ?_)
  refine WL.nil (Thn_n ?_)
  refine CW.seq ?_
  refine CW.seq ?_
  refine CW.region ?_
  refine WL.step rfl (Stp.res rfl rfl (Res.assign rfl rfl) ?_)
  refine WL.nil (Thn_n ?_)
  refine CW.block ?_
  refine CW.loop (σ := Nat × UInt8) (fun s => [(0, byte x), (3, byte s.2), (4, .int .i64 (s.1 : Int))])
    (fun s w' => w' = w ∧ s.1 ≤ 256 ∧ Aes.Found x s.1 s.2) (fun s => 256 - s.1) (1, 0) ⟨rfl, rfl, rfl, trivial⟩ ⟨rfl, by decide, .inr ⟨rfl, fun j h1 h2 => by dsimp only at h2; omega⟩⟩ ?_
  rintro ⟨i, v⟩ w' ⟨rfl, hi, hF⟩
  dsimp only at hi hF ⊢
  refine CW.seq ?_
  refine CW.seq ?_
  refine CW.region ?_
  refine WL.step rfl (Stp.res rfl rfl (Res.move rfl rfl) ?_)
  refine WL.step rfl (Stp.res rfl rfl (Res.lss rfl rfl rfl) ?_)
  refine WL.nil (Thn_n ?_)
  refine CW.ite rfl (fun h => ?_) (fun h => ?_)
  · have hlt : i < 256 := by omega
    refine CW.skip (Thn_n ?_)
    refine CW.seq ?_
    refine CW.block ?_
    refine CW.seq ?_
    refine CW.region ?_
    refine WL.step rfl (Stp.res rfl rfl (Res.move rfl rfl) ?_)
    refine WL.step rfl (Stp.res rfl rfl (Res.move rfl rfl) ?_)
    refine WL.step rfl (Stp.res rfl rfl (Res.convB (k := i) rfl rfl Try.underlying3 Try.underlying5) ?_)
    refine WL.step rfl (Stp.callA (args := [_, _]) rfl rfl rfl cal12 rfl rfl (rtimes_ok _ _ _) ?_)
    refine WL.step rfl (Stp.res rfl rfl (Res.eqlB 1 rfl rfl rfl) ?_)
    refine WL.nil (Thn_n ?_)
    refine CW.ite rfl (fun h2 => ?_) (fun h2 => ?_)
    · have hF2 := Aes.Found.hit h2
      refine CW.region ?_
      refine WL.step rfl (Stp.res rfl rfl (Res.move rfl rfl) ?_)
      refine WL.step rfl (Stp.res rfl rfl (Res.convB (k := i) rfl rfl Try.underlying3 Try.underlying5) ?_)
      refine WL.step rfl (Stp.res rfl rfl (Res.assign rfl rfl) ?_)
      refine WL.nil (Blk_n (Thn_n ?_))
      refine CW.region ?_
      refine WL.step rfl (Stp.res rfl rfl (Res.move rfl rfl) ?_)
      refine WL.step rfl (Stp.res rfl rfl (Res.add rfl rfl rfl (by omega)) ?_)
      refine WL.step rfl (Stp.res rfl rfl (Res.assign rfl rfl) ?_)
      refine WL.nil (Thn_n ?_)
      exact ⟨(i + 1, _), ⟨rfl, rfl, rfl, trivial⟩, ⟨rfl, by dsimp only; omega, hF2⟩, by dsimp only; omega⟩
    · have hF2 := hF.miss h2
      refine CW.skip (Blk_n (Thn_n ?_))
      refine CW.region ?_
      refine WL.step rfl (Stp.res rfl rfl (Res.move rfl rfl) ?_)
      refine WL.step rfl (Stp.res rfl rfl (Res.add rfl rfl rfl (by omega)) ?_)
      refine WL.step rfl (Stp.res rfl rfl (Res.assign rfl rfl) ?_)
      refine WL.nil (Thn_n ?_)
      exact ⟨(i + 1, _), ⟨rfl, rfl, rfl, trivial⟩, ⟨rfl, by dsimp only; omega, hF2⟩, by dsimp only; omega⟩
  · obtain rfl : i = 256 := by omega
    have hv := hF.all
    refine CW.exit (Thn_x (Thn_x (Blk_x (Thn_n ?_))))
    refine CW.seq ?_
    refine CW.region ?_
    refine WL.step rfl (Stp.res rfl rfl (Res.move rfl rfl) ?_)
    refine WL.step rfl (Stp.res rfl rfl (Res.move rfl rfl) ?_)
    refine WL.step rfl (Stp.res rfl rfl (Res.assign rfl rfl) ?_)
    refine WL.step rfl (Stp.res rfl rfl (Res.assign rfl rfl) ?_)
    refine WL.nil (Thn_n ?_)
    refine CW.seq ?_
    refine CW.seq ?_
    refine CW.region ?_
    refine WL.step rfl (Stp.res rfl rfl (Res.assign rfl rfl) ?_)
    refine WL.nil (Thn_n ?_)
    refine CW.block ?_
    refine CW.loop (σ := Nat) (fun k => [(5, byte (Aes.affS v k)), (6, byte (Aes.affT v k)), (7, .int .i64 (k : Int))])
      (fun k w1 => w1 = w' ∧ k ≤ 4) (fun k => 4 - k) 0 ⟨rfl, rfl, rfl, trivial⟩ ⟨rfl, by decide⟩ ?_
    rintro k w1 ⟨rfl, hk⟩
    refine CW.seq ?_
    refine CW.seq ?_
    refine CW.region ?_
    refine WL.step rfl (Stp.res rfl rfl (Res.move rfl rfl) ?_)
    refine WL.step rfl (Stp.res rfl rfl (Res.lss rfl rfl rfl) ?_)
    refine WL.nil (Thn_n ?_)
    refine CW.ite rfl (fun h => ?_) (fun h => ?_)
    · have hlt : k < 4 := by omega
      refine CW.skip (Thn_n ?_)
      refine CW.seq ?_
      refine CW.block ?_
      refine CW.seq ?_
      refine CW.region ?_
      refine WL.step rfl (Stp.res rfl rfl (Res.move rfl rfl) ?_)
      refine WL.step rfl (Stp.res rfl rfl (Res.mulB 2 rfl rfl rfl) ?_)
      refine WL.step rfl (Stp.res rfl rfl (Res.move rfl rfl) ?_)
      refine WL.step rfl (Stp.res rfl rfl (Res.quoB 128 rfl rfl rfl (by decide)) ?_)
      refine WL.step rfl (Stp.res rfl rfl (Res.addB _ rfl rfl rfl) ?_)
      refine WL.step rfl (Stp.res rfl rfl (Res.assign rfl rfl) ?_)
      refine WL.nil (Thn_n ?_)
      refine CW.region ?_
      refine WL.step rfl (Stp.res rfl rfl (Res.move rfl rfl) ?_)
      refine WL.step rfl (Stp.res rfl rfl (Res.move rfl rfl) ?_)
      refine WL.step rfl (Stp.res rfl rfl (Res.xorB _ rfl rfl rfl) ?_)
      refine WL.step rfl (Stp.res rfl rfl (Res.assign rfl rfl) ?_)
      refine WL.nil (Blk_n (Thn_n ?_))
      refine CW.region ?_
      refine WL.step rfl (Stp.res rfl rfl (Res.move rfl rfl) ?_)
      refine WL.step rfl (Stp.res rfl rfl (Res.add rfl rfl rfl (by omega)) ?_)
      refine WL.step rfl (Stp.res rfl rfl (Res.assign rfl rfl) ?_)
      refine WL.nil (Thn_n ?_)
      exact ⟨k + 1, ⟨rfl, rfl, rfl, trivial⟩, ⟨rfl, by omega⟩, by omega⟩
    · obtain rfl : k = 4 := by omega
      refine CW.exit (Thn_x (Thn_x (Blk_x (Thn_n ?_))))
      refine CW.seq ?_
      refine CW.region ?_
      refine WL.step rfl (Stp.res rfl rfl (Res.move rfl rfl) ?_)
      refine WL.step rfl (Stp.res rfl rfl (Res.xorB 99 rfl rfl rfl) ?_)
      refine WL.step rfl (Stp.res rfl rfl (Res.assign rfl rfl) ?_)
      refine WL.nil (Thn_n ?_)
      refine CW.ret ?_
      exact fq_tmp rfl rfl ⟨by rw [hv, Aes.sub_aff], rfl⟩
end Go.Proofs.Ytanogodfnfkkbaa
