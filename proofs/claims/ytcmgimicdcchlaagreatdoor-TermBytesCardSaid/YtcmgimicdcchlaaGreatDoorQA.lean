/- Lemmas on the way to the statement; no condition of its own. -/
import Derived.Test.YtcmgimicdcchlaaGreatDoorProg
import Derived.Test.YtcmgimicdcchlaaGreatDoorQP
import Derived.Test.YtcmgimicdcchlaaGreatDoorQE2
set_option linter.unusedVariables false
set_option maxRecDepth 20000
namespace Go.Proofs.YtcmgimicdcchlaaGreatDoor
open Go.Proofs.Tryz
open Go Go.E
theorem mixed : Tryz.prog.follows .mixedOrders = true := by kernel_rfl
theorem sz5 : (Tryz.prog.info? 5).map (·.size) = some 1 := by kernel_rfl
theorem sz78 : (Tryz.prog.info? 78).map (·.size) = some 16 := by kernel_rfl
theorem sz180 : (Tryz.prog.info? 180).map (·.size) = some 176 := by kernel_rfl
theorem sz185 : (Tryz.prog.info? 185).map (·.size) = some 4 := by kernel_rfl
theorem sz234 : (Tryz.prog.info? 234).map (·.size) = some 256 := by kernel_rfl
theorem sz237 : (Tryz.prog.info? 237).map (·.size) = some 16 := by kernel_rfl
theorem z78 : (Tryz.prog.info? 78).map (·.zero) = some (some (.agg (bs (List.replicate 16 0)))) := by kernel_rfl
theorem z180 : (Tryz.prog.info? 180).map (·.zero) = some (some (.agg (bs (List.replicate 176 0)))) := by kernel_rfl
theorem z185 : (Tryz.prog.info? 185).map (·.zero) = some (some (.agg (bs (List.replicate 4 0)))) := by kernel_rfl
theorem z234 : (Tryz.prog.info? 234).map (·.zero) = some (some (.agg (bs (List.replicate 256 0)))) := by kernel_rfl
theorem z237 : (Tryz.prog.info? 237).map (·.zero) = some (some (.agg (bs (List.replicate 16 0)))) := by kernel_rfl
theorem cal136 : Callable Tryz.prog 136 := ⟨Tryz.f136, func136, rfl, by kernel_rfl⟩
theorem cal137 : Callable Tryz.prog 137 := ⟨Tryz.f137, func137, rfl, by kernel_rfl⟩
theorem cal138 : Callable Tryz.prog 138 := ⟨Tryz.f138, func138, rfl, by kernel_rfl⟩
theorem cal139 : Callable Tryz.prog 139 := ⟨Tryz.f139, func139, rfl, by kernel_rfl⟩
theorem cal154 : Callable Tryz.prog 154 := ⟨Tryz.f154, func154, rfl, by kernel_rfl⟩
theorem cal155 : Callable Tryz.prog 155 := ⟨Tryz.f155, func155, rfl, by kernel_rfl⟩
theorem cal156 : Callable Tryz.prog 156 := ⟨Tryz.f156, func156, rfl, by kernel_rfl⟩
theorem cal157 : Callable Tryz.prog 157 := ⟨Tryz.f157, func157, rfl, by kernel_rfl⟩
theorem cal161 : Callable Tryz.prog 161 := ⟨Tryz.f161, func161, rfl, by kernel_rfl⟩
theorem cal167 : Callable Tryz.prog 167 := ⟨Tryz.f167, func167, rfl, by kernel_rfl⟩
theorem cal168 : Callable Tryz.prog 168 := ⟨Tryz.f168, func168, rfl, by kernel_rfl⟩
theorem cal169 : Callable Tryz.prog 169 := ⟨Tryz.f169, func169, rfl, by kernel_rfl⟩
theorem cal178 : Callable Tryz.prog 178 := ⟨Tryz.f178, func178, rfl, by kernel_rfl⟩
theorem et30 : ET Tryz.prog 30 5 (byte 0) 1 1 := ⟨underlying30, by kernel_rfl⟩
end Go.Proofs.YtcmgimicdcchlaaGreatDoor
set_option linter.unusedVariables false
set_option maxRecDepth 20000
namespace Go.Proofs.YtcmgimicdcchlaaGreatDoor
open Go.Proofs.Tryz
open Go Go.E
theorem twice_ok (x : UInt8) (w : World) : Calls Tryz.prog 178 #[byte x] w fun e w' => ∃ v, e = .returned v ∧ v = byte (Aes.twice x) ∧ w' = w := by
  refine enter (l := [byte x]) 9 func178 rfl ntmps178 rfl ?_
  refine CW.seq ?_
  refine CW.region ?_
  refine WL.step rfl (Stp.res rfl rfl (Res.assign (v := byte 0) rfl rfl) ?_)
  refine WL.nil (Thn_n ?_)
  refine CW.seq ?_
  refine CW.region ?_
  refine WL.step rfl (Stp.res rfl rfl (Res.move rfl rfl) ?_)
  refine WL.step rfl (Stp.res rfl rfl (Res.shlB 1 rfl rfl rfl (by decide)) ?_)
  refine WL.step rfl (Stp.res rfl rfl (Res.move rfl rfl) ?_)
  refine WL.step rfl (Stp.res rfl rfl (Res.shrB 7 rfl rfl rfl (by decide)) ?_)
  refine WL.step rfl (Stp.res rfl rfl (Res.mulB 27 rfl rfl rfl) ?_)
  refine WL.step rfl (Stp.res rfl rfl (Res.xorB _ rfl rfl rfl) ?_)
  refine WL.step rfl (Stp.res rfl rfl (Res.assign rfl rfl) ?_)
  refine WL.nil (Thn_n ?_)
  refine CW.ret ?_
  exact fq_tmp rfl rfl ⟨rfl, rfl⟩
theorem times_ok (a b : UInt8) (w : World) : Calls Tryz.prog 169 #[byte a, byte b] w fun e w' => ∃ v, e = .returned v ∧ v = byte (Aes.times a b) ∧ w' = w := by
  refine enter (l := [byte a, byte b]) 19 func169 rfl ntmps169 rfl ?_
  refine CW.seq ?_
  refine CW.region ?_
  refine WL.step rfl (Stp.res rfl rfl (Res.assign (v := byte 0) rfl rfl) ?_)
  refine WL.nil (Thn_n ?_)
  refine CW.seq ?_
  refine CW.region ?_
  refine WL.step rfl (Stp.res rfl rfl (Res.assign (v := byte 0) rfl rfl) ?_)
  refine WL.nil (Thn_n ?_)
  refine CW.seq ?_
  refine CW.block ?_
  refine CW.loop (σ := Nat × UInt8 × UInt8 × UInt8) (fun s => [(0, byte s.2.1), (1, byte s.2.2.1), (5, byte s.2.2.2)])
    (fun s w' => w' = w ∧ s.2.2.1.toNat < 2 ^ s.1 ∧ Aes.timesF s.1 s.2.2.2 s.2.1 s.2.2.1 = Aes.times a b) (fun s => s.2.2.1.toNat) (8, a, b, 0) ⟨rfl, rfl, rfl, trivial⟩ ⟨rfl, b.toNat_lt, rfl⟩ ?_
  rintro ⟨k, a', b', p⟩ w' ⟨rfl, hI⟩
  dsimp only at hI ⊢
  refine CW.seq ?_
  refine CW.seq ?_
  refine CW.region ?_
  refine WL.step rfl (Stp.res rfl rfl (Res.move rfl rfl) ?_)
  refine WL.step rfl (Stp.res rfl rfl (Res.neqB 0 rfl rfl rfl) ?_)
  refine WL.nil (Thn_n ?_)
  refine CW.ite rfl (fun h => ?_) (fun h => ?_)
  · obtain ⟨hk, ht⟩ := hI
    refine CW.skip (Thn_n ?_)
    refine CW.seq ?_
    refine CW.block ?_
    refine CW.region ?_
    refine WL.step rfl (Stp.res rfl rfl (Res.move rfl rfl) ?_)
    refine WL.step rfl (Stp.res rfl rfl (Res.move rfl rfl) ?_)
    refine WL.step rfl (Stp.res rfl rfl (Res.move rfl rfl) ?_)
    refine WL.step rfl (Stp.res rfl rfl (Res.andB 1 rfl rfl rfl) ?_)
    refine WL.step rfl (Stp.res rfl rfl (Res.mulB _ rfl rfl rfl) ?_)
    refine WL.step rfl (Stp.res rfl rfl (Res.xorB _ rfl rfl rfl) ?_)
    refine WL.step rfl (Stp.res rfl rfl (Res.assign rfl rfl) ?_)
    refine WL.nil (Blk_n (Thn_n ?_))
    refine CW.region ?_
    refine WL.step rfl (Stp.res rfl rfl (Res.move rfl rfl) ?_)
    refine WL.step rfl (Stp.callA (args := [_]) rfl rfl rfl cal178 rfl rfl (twice_ok _ _) ?_)
    refine WL.step rfl (Stp.res rfl rfl (Res.move rfl rfl) ?_)
    refine WL.step rfl (Stp.res rfl rfl (Res.shrB 1 rfl rfl rfl (by decide)) ?_)
    refine WL.step rfl (Stp.res rfl rfl (Res.assign rfl rfl) ?_)
    refine WL.step rfl (Stp.res rfl rfl (Res.assign rfl rfl) ?_)
    refine WL.nil (Thn_n ?_)
    obtain ⟨k, rfl⟩ : ∃ m, k = m + 1 := ⟨k - 1, by
      have : k ≠ 0 := fun e => by subst e; have : b'.toNat = 0 := by omega
                                  exact h (UInt8.toNat_inj.1 this)
      omega⟩
    have hb := Aes.half b'
    have hpos : 0 < b'.toNat := Nat.pos_of_ne_zero fun e => h (UInt8.toNat_inj.1 e)
    refine ⟨(k, Aes.twice a', UInt8.ofNat (b'.toNat / 2 ^ 1), p ^^^ a' * (b' &&& 1)), ⟨rfl, rfl, rfl, trivial⟩, ⟨rfl, ?_, ?_⟩, ?_⟩
    · show (UInt8.ofNat (b'.toNat / 2 ^ 1)).toNat < 2 ^ k
      rw [hb, Nat.div_lt_iff_lt_mul (by decide)]; rw [Nat.pow_succ] at hk; exact hk
    · exact (Aes.timesF_step _ _ _ _ h).symm.trans ht
    · show (UInt8.ofNat (b'.toNat / 2 ^ 1)).toNat < b'.toNat
      omega
  · obtain ⟨hk, ht⟩ := hI
    refine CW.exit (Thn_x (Thn_x (Blk_x (Thn_n ?_))))
    refine CW.seq ?_
    refine CW.region ?_
    refine WL.step rfl (Stp.res rfl rfl (Res.move rfl rfl) ?_)
    refine WL.step rfl (Stp.res rfl rfl (Res.assign rfl rfl) ?_)
    refine WL.nil (Thn_n ?_)
    refine CW.ret ?_
    have h0 : b' = 0 := Decidable.not_not.1 h
    subst h0
    rw [Aes.timesF_zero] at ht
    exact fq_tmp rfl rfl ⟨by rw [← ht], rfl⟩
theorem box_ok  (w0 : World) (M : PH) (hM : On M w0)  : Ok Tryz.prog 167 #[] w0 M (fun M' v => M = M' ∧ v = .agg (bs Aes.boxL)) := by
  have hS := hM.st
  refine enterB (l := []) 2 func167 rfl ntmps167 rfl ?_
  refine CW.seq ?_
  refine CW.region ?_
  refine WL.step rfl (Stp.alloc (cs := bs (List.replicate 256 0)) rfl z234 rfl rfl rfl hS ?_)
  intro b0 w hb0 hS hkp hnw
  refine WL.nil (Thn_n ?_)
  refine CW.seq ?_
  refine CW.region ?_
  refine WL.step rfl (Stp.res rfl rfl (Res.build (vals := tabV Aes.boxL) (cs := bs Aes.boxL) rfl (by kernel_rfl) (fun _ => by kernel_rfl)) ?_)
  refine WL.step rfl (Stp.storeAllB 0 rfl rfl rfl sz234 rfl hS rfl (by exact ⟨List.length_replicate .., Aes.boxL_len⟩) ?_)
  intro w hS hpt
  refine WL.nil (Thn_n ?_)
  refine CW.ret ?_
  exact fq_cell rfl rfl (hS.get (i := 0) rfl) underlying234 rfl (by rw [size_bs, Aes.boxL_len]; exact sz234) ⟨M, hS.drop (i := 0) rfl hb0, PH.le.refl _, Fresh.refl _ _, rfl, rfl⟩
theorem xor_ok (l k : List UInt8) (T : TypeId) (w0 : World) (M : PH) (hM : On M w0) (b : Nat) (hb : w0.heap[b]? = some (.cells (bs l) T (0, 0))) (hmb : M b = none) (hl : l.length = 16) (hk : k.length = 16) : OkO Tryz.prog 155 #[.pointer (some ⟨b, 0, none⟩), .agg (bs k)] w0 M b (fun M' o' v => M = M' ∧ o' = .cells (bs (Aes.xorB l k)) T (0, 0) ∧ v = .tuple #[]) := by
  have hS := hM.st1 hb hmb
  refine enterO (l := [.pointer (some ⟨b, 0, none⟩), .agg (bs k)]) 20 func155 rfl ntmps155 rfl ?_
  refine CW.seq ?_
  refine CW.region ?_
  refine WL.step rfl (Stp.boxA rfl rfl rfl rfl hS ?_)
  intro b3 w hb3 hS hkp hnw
  refine WL.nil (Thn_n ?_)
  refine CW.seq ?_
  refine CW.region ?_
  refine WL.step rfl (Stp.res rfl rfl (Res.move rfl rfl) ?_)
  refine WL.nil (Thn_n ?_)
  refine CW.block ?_
  refine CW.loop (σ := Nat) (fun i => [(0, .pointer (some ⟨b, 0, none⟩)), (3, .pointer (some ⟨b3, 0, none⟩)), (5, .int .i64 i)])
    (fun i w' => i ≤ 16 ∧ St w0 w' M [(b3, .cells (bs k) 78 (0, 0)), (b, .cells (bs (Aes.upTo i (fun j => l.getD j 0 ^^^ k.getD j 0) l)) T (0, 0))]) (fun i => 16 - i) 0 ⟨rfl, rfl, rfl, trivial⟩ ⟨by omega, by rw [Aes.upTo_zero]; exact hS⟩ ?_
  rintro i w1 ⟨hi, hS⟩
  refine CW.seq ?_
  refine CW.region ?_
  refine WL.step rfl (Stp.res rfl rfl (Res.lss rfl rfl rfl) ?_)
  refine WL.nil (Thn_n ?_)
  refine CW.seq ?_
  refine CW.ite rfl (fun h => ?_) (fun h => ?_)
  · obtain hlt : i < 16 := by omega
    refine CW.skip (Thn_n ?_)
    refine CW.seq ?_
    refine CW.block ?_
    refine CW.seq ?_
    refine CW.region ?_
    refine WL.step rfl (Stp.res rfl rfl (Res.move rfl rfl) ?_)
    refine WL.step rfl (Stp.res rfl rfl (Res.assign rfl rfl) ?_)
    refine WL.nil (Thn_n ?_)
    have hS := hS.drew
    refine CW.tail 11 mixed (by kernel_rfl) ?_
    refine SL.step rfl rfl rfl (Res.move rfl rfl) ?_
    refine SL.step rfl rfl rfl (Res.move rfl rfl) ?_
    refine SL.step rfl rfl rfl (Res.nilCheck rfl rfl) ?_
    first | refine SL.step rfl rfl rfl (Res.idxA0 rfl rfl rfl underlying237 sz5 (by first | exact Int.toNat_natCast _ | rfl) (by omega)) ?_ | refine SL.step rfl rfl rfl (Res.idxA1 rfl rfl rfl underlying237 sz5 (by first | exact Int.toNat_natCast _ | rfl) (by omega)) ?_
    refine SL.step rfl rfl rfl (Res.load1 rfl rfl underlying5 rfl (by first | exact hS.ocell (i := 0) rfl (bs_get (by first | omega | (simp; omega))) | exact hS.ocell (i := 1) rfl (bs_get (by first | omega | (simp; omega))))) ?_
    refine SL.step rfl rfl rfl (Res.move rfl rfl) ?_
    first | refine SL.step rfl rfl rfl (Res.idxA0 rfl rfl rfl underlying78 sz5 (by first | exact Int.toNat_natCast _ | rfl) (by omega)) ?_ | refine SL.step rfl rfl rfl (Res.idxA1 rfl rfl rfl underlying78 sz5 (by first | exact Int.toNat_natCast _ | rfl) (by omega)) ?_
    refine SL.step rfl rfl rfl (Res.load1 rfl rfl underlying5 rfl (by first | exact hS.ocell (i := 0) rfl (bs_get (by first | omega | (simp; omega))) | exact hS.ocell (i := 1) rfl (bs_get (by first | omega | (simp; omega))))) ?_
    refine SL.step rfl rfl rfl (Res.xorB _ rfl rfl rfl) ?_
    refine SL.step rfl rfl rfl (Res.nilCheck rfl rfl) ?_
    first | refine SL.step rfl rfl rfl (Res.idxA0 rfl rfl rfl underlying237 sz5 (by first | exact Int.toNat_natCast _ | rfl) (by omega)) ?_ | refine SL.step rfl rfl rfl (Res.idxA1 rfl rfl rfl underlying237 sz5 (by first | exact Int.toNat_natCast _ | rfl) (by omega)) ?_
    refine SL.nil ?_
    first | refine WL.step rfl (Stp.storeB 0 rfl rfl rfl sz5 rfl hS rfl (by first | omega | (simp; omega)) ?_) | refine WL.step rfl (Stp.storeB 1 rfl rfl rfl sz5 rfl hS rfl (by first | omega | (simp; omega)) ?_)
    intro w hS hpt
    refine WL.nil (Blk_n (Thn_n ?_))
    refine CW.region ?_
    refine WL.step rfl (Stp.res rfl rfl (Res.add rfl rfl rfl (by omega)) ?_)
    refine WL.step rfl (Stp.res rfl rfl (Res.move rfl rfl) ?_)
    refine WL.nil (Thn_n ?_)
    refine ⟨i + 1, ⟨rfl, rfl, rfl, trivial⟩, ⟨by omega, ?_⟩, by omega⟩
    rw [Aes.upTo_getD _ _ _ _ (by omega), if_neg (by omega)] at hS
    rw [← Aes.upTo_set]
    exact hS
  · obtain rfl : i = 16 := by omega
    refine CW.exit (Thn_x (Thn_x (Blk_x ?_)))
    rw [Aes.upTo_all _ _ 16 hl] at hS
    exact fq_none rfl ⟨M, _, hS.drop (i := 0) rfl hb3, PH.le.refl _, Fresh.refl _ _, rfl, rfl, rfl⟩
theorem turn1_ok (l : List UInt8) (T : TypeId) (w0 : World) (M : PH) (hM : On M w0) (b : Nat) (hb : w0.heap[b]? = some (.cells (bs l) T (0, 0))) (hmb : M b = none) (hl : l.length = 16) : OkO Tryz.prog 157 #[.pointer (some ⟨b, 0, none⟩), .int .i64 1] w0 M b (fun M' o' v => M = M' ∧ o' = .cells (bs (Aes.turnB 1 l)) T (0, 0) ∧ v = .tuple #[]) := by
  have hS := hM.st1 hb hmb
  refine enterO (l := [.pointer (some ⟨b, 0, none⟩), .int .i64 1]) 27 func157 rfl ntmps157 rfl ?_
  refine CW.seq ?_
  refine CW.region ?_
  refine WL.step rfl (Stp.res rfl rfl (Res.move rfl rfl) ?_)
  refine WL.step rfl (Stp.res rfl rfl (Res.nilCheck rfl rfl) ?_)
  refine WL.step rfl (Stp.res rfl rfl (Res.loadAll rfl rfl underlying237 rfl (by rw [size_bs, hl]; exact sz237) (hS.get (i := 0) rfl)) ?_)
  refine WL.step rfl (Stp.alloc (cs := bs (List.replicate 16 0)) rfl z237 rfl rfl rfl hS ?_)
  intro b4 w hb4 hS hkp hnw
  first | refine WL.step rfl (Stp.storeAllB 0 rfl rfl rfl sz237 rfl hS rfl (by first | omega | (simp; omega)) ?_) | refine WL.step rfl (Stp.storeAllB 1 rfl rfl rfl sz237 rfl hS rfl (by first | omega | (simp; omega)) ?_)
  intro w hS hpt
  refine WL.nil (Thn_n ?_)
  refine CW.seq ?_
  refine CW.region ?_
  refine WL.step rfl (Stp.res rfl rfl (Res.move rfl rfl) ?_)
  refine WL.nil (Thn_n ?_)
  refine CW.block ?_
  refine CW.loop (σ := Nat) (fun i => [(0, .pointer (some ⟨b, 0, none⟩)), (1, .int .i64 1), (4, .pointer (some ⟨b4, 0, none⟩)), (9, .int .i64 i)])
    (fun i w' => i ≤ 16 ∧ St w0 w' M [(b4, .cells (bs l) 237 (0, 0)), (b, .cells (bs (Aes.upTo i (fun j => l.getD ((j + 4 * 1 * (j % 4)) % 16) 0) l)) T (0, 0))]) (fun i => 16 - i) 0 ⟨rfl, rfl, rfl, rfl, trivial⟩ ⟨by omega, by rw [Aes.upTo_zero]; exact hS⟩ ?_
  rintro i w1 ⟨hi, hS⟩
  refine CW.seq ?_
  refine CW.region ?_
  refine WL.step rfl (Stp.res rfl rfl (Res.lss rfl rfl rfl) ?_)
  refine WL.nil (Thn_n ?_)
  refine CW.seq ?_
  refine CW.ite rfl (fun h => ?_) (fun h => ?_)
  · obtain hlt : i < 16 := by omega
    refine CW.skip (Thn_n ?_)
    refine CW.seq ?_
    refine CW.block ?_
    refine CW.seq ?_
    refine CW.region ?_
    refine WL.step rfl (Stp.res rfl rfl (Res.move rfl rfl) ?_)
    refine WL.step rfl (Stp.res rfl rfl (Res.assign rfl rfl) ?_)
    refine WL.nil (Thn_n ?_)
    have hS := hS.drew
    refine CW.tail 14 mixed (by kernel_rfl) ?_
    refine SL.step rfl rfl rfl (Res.move rfl rfl) ?_
    refine SL.step rfl rfl rfl (Res.move rfl rfl) ?_
    refine SL.step rfl rfl rfl (Res.move rfl rfl) ?_
    refine SL.step rfl rfl rfl (Res.move rfl rfl) ?_
    refine SL.step rfl rfl rfl (Res.mul rfl rfl rfl (by omega)) ?_
    refine SL.step rfl rfl rfl (Res.move rfl rfl) ?_
    refine SL.step rfl rfl rfl (Res.rem rfl rfl rfl (by omega)) ?_
    refine SL.step rfl rfl rfl (Res.mul rfl rfl rfl (by omega)) ?_
    refine SL.step rfl rfl rfl (Res.add rfl rfl rfl (by omega)) ?_
    refine SL.step rfl rfl rfl (Res.rem rfl rfl rfl (by omega)) ?_
    refine SL.step rfl rfl rfl (Res.idxA0 (k := (i + 4 * 1 * (i % 4)) % 16) rfl rfl rfl underlying237 sz5 (by omega) (by omega)) ?_
    refine SL.step rfl rfl rfl (Res.load1 rfl rfl underlying5 rfl (by first | exact hS.ocell (i := 0) rfl (bs_get (by first | omega | (simp; omega))) | exact hS.ocell (i := 1) rfl (bs_get (by first | omega | (simp; omega))))) ?_
    refine SL.step rfl rfl rfl (Res.nilCheck rfl rfl) ?_
    first | refine SL.step rfl rfl rfl (Res.idxA0 rfl rfl rfl underlying237 sz5 (by first | exact Int.toNat_natCast _ | rfl) (by omega)) ?_ | refine SL.step rfl rfl rfl (Res.idxA1 rfl rfl rfl underlying237 sz5 (by first | exact Int.toNat_natCast _ | rfl) (by omega)) ?_
    refine SL.nil ?_
    first | refine WL.step rfl (Stp.storeB 0 rfl rfl rfl sz5 rfl hS rfl (by first | omega | (simp; omega)) ?_) | refine WL.step rfl (Stp.storeB 1 rfl rfl rfl sz5 rfl hS rfl (by first | omega | (simp; omega)) ?_)
    intro w hS hpt
    refine WL.nil (Blk_n (Thn_n ?_))
    refine CW.region ?_
    refine WL.step rfl (Stp.res rfl rfl (Res.add rfl rfl rfl (by omega)) ?_)
    refine WL.step rfl (Stp.res rfl rfl (Res.move rfl rfl) ?_)
    refine WL.nil (Thn_n ?_)
    refine ⟨i + 1, ⟨rfl, rfl, rfl, rfl, trivial⟩, ⟨by omega, ?_⟩, by omega⟩
    rw [← Aes.upTo_set]
    exact hS
  · obtain rfl : i = 16 := by omega
    refine CW.exit (Thn_x (Thn_x (Blk_x ?_)))
    rw [Aes.upTo_all _ _ 16 hl] at hS
    exact fq_none rfl ⟨M, _, hS.drop (i := 0) rfl hb4, PH.le.refl _, Fresh.refl _ _, rfl, rfl, rfl⟩
end Go.Proofs.YtcmgimicdcchlaaGreatDoor
set_option linter.unusedVariables false
set_option maxRecDepth 20000
namespace Go.Proofs.YtcmgimicdcchlaaGreatDoor
open Go.Proofs.Tryz
open Go Go.E
theorem mix_ok (l m : List UInt8) (T : TypeId) (w0 : World) (M : PH) (hM : On M w0) (b : Nat) (hb : w0.heap[b]? = some (.cells (bs l) T (0, 0))) (hmb : M b = none) (hl : l.length = 16) (hm : m.length = 4) : OkO Tryz.prog 156 #[.pointer (some ⟨b, 0, none⟩), .agg (bs m)] w0 M b (fun M' o' v => M = M' ∧ o' = .cells (bs (Aes.mixB l m)) T (0, 0) ∧ v = .tuple #[]) := by
  have hS := hM.st1 hb hmb
  refine enterO (l := [.pointer (some ⟨b, 0, none⟩), .agg (bs m)]) 40 func156 rfl ntmps156 rfl ?_
  refine CW.seq ?_
  refine CW.region ?_
  refine WL.step rfl (Stp.boxA rfl rfl rfl rfl hS ?_)
  intro b3 w hb3 hS hkp hnw
  refine WL.nil (Thn_n ?_)
  refine CW.seq ?_
  refine CW.region ?_
  refine WL.step rfl (Stp.res rfl rfl (Res.move rfl rfl) ?_)
  refine WL.step rfl (Stp.res rfl rfl (Res.nilCheck rfl rfl) ?_)
  refine WL.step rfl (Stp.res rfl rfl (Res.loadAll rfl rfl underlying237 rfl (by rw [size_bs, hl]; exact sz237) (hS.get (i := 1) rfl)) ?_)
  refine WL.step rfl (Stp.alloc (cs := bs (List.replicate 16 0)) rfl z237 rfl rfl rfl hS ?_)
  intro b4 w hb4 hS hkp hnw
  first | refine WL.step rfl (Stp.storeAllB 0 rfl rfl rfl sz237 rfl hS rfl (by first | omega | (simp; omega)) ?_) | refine WL.step rfl (Stp.storeAllB 1 rfl rfl rfl sz237 rfl hS rfl (by first | omega | (simp; omega)) ?_) | refine WL.step rfl (Stp.storeAllB 2 rfl rfl rfl sz237 rfl hS rfl (by first | omega | (simp; omega)) ?_)
  intro w hS hpt
  refine WL.nil (Thn_n ?_)
  refine CW.seq ?_
  refine CW.region ?_
  refine WL.step rfl (Stp.res rfl rfl (Res.move rfl rfl) ?_)
  refine WL.nil (Thn_n ?_)
  refine CW.block ?_
  refine CW.loop (σ := Nat) (fun i => [(0, .pointer (some ⟨b, 0, none⟩)), (3, .pointer (some ⟨b3, 0, none⟩)), (4, .pointer (some ⟨b4, 0, none⟩)), (12, .int .i64 i)])
    (fun i w' => i ≤ 16 ∧ St w0 w' M [(b4, .cells (bs l) 237 (0, 0)), (b3, .cells (bs m) 185 (0, 0)), (b, .cells (bs (Aes.upTo i (fun i => Aes.mixAcc l m i 4) l)) T (0, 0))]) (fun i => 16 - i) 0 ⟨rfl, rfl, rfl, rfl, trivial⟩ ⟨by omega, by rw [Aes.upTo_zero]; exact hS⟩ ?_
  rintro i w1 ⟨hi, hS⟩
  refine CW.seq ?_
  refine CW.region ?_
  refine WL.step rfl (Stp.res rfl rfl (Res.lss rfl rfl rfl) ?_)
  refine WL.nil (Thn_n ?_)
  refine CW.seq ?_
  refine CW.ite rfl (fun h => ?_) (fun h => ?_)
  · obtain hlt : i < 16 := by omega
    refine CW.skip (Thn_n ?_)
    refine CW.seq ?_
    refine CW.block ?_
    refine CW.seq ?_
    refine CW.region ?_
    refine WL.step rfl (Stp.res rfl rfl (Res.move rfl rfl) ?_)
    refine WL.step rfl (Stp.res rfl rfl (Res.assign rfl rfl) ?_)
    refine WL.nil (Thn_n ?_)
    refine CW.seq ?_
    refine CW.region ?_
    refine WL.step rfl (Stp.res rfl rfl (Res.assign (v := byte 0) rfl rfl) ?_)
    refine WL.nil (Thn_n ?_)
    refine CW.seq ?_
    refine CW.seq ?_
    refine CW.region ?_
    refine WL.step rfl (Stp.res rfl rfl (Res.loadAll rfl rfl underlying185 rfl (by rw [size_bs, hm]; exact sz185) (hS.get (i := 1) rfl)) ?_)
    refine WL.step rfl (Stp.res rfl rfl (Res.move rfl rfl) ?_)
    refine WL.nil (Thn_n ?_)
    refine CW.block ?_
    refine CW.loop (σ := Nat) (fun k => [(0, .pointer (some ⟨b, 0, none⟩)), (3, .pointer (some ⟨b3, 0, none⟩)), (4, .pointer (some ⟨b4, 0, none⟩)), (12, .int .i64 i), (5, .int .i64 i), (6, byte (Aes.mixAcc l m i k)), (15, .agg (bs m)), (16, .int .i64 k)])
      (fun k w' => k ≤ 4 ∧ St w0 w' M [(b4, .cells (bs l) 237 (0, 0)), (b3, .cells (bs m) 185 (0, 0)), (b, .cells (bs (Aes.upTo i (fun i => Aes.mixAcc l m i 4) l)) T (0, 0))]) (fun k => 4 - k) 0 ⟨rfl, rfl, rfl, rfl, rfl, rfl, rfl, rfl, trivial⟩ ⟨by omega, hS⟩ ?_
    rintro k w2 ⟨hk, hS⟩
    refine CW.seq ?_
    refine CW.region ?_
    refine WL.step rfl (Stp.res rfl rfl (Res.lss rfl rfl rfl) ?_)
    refine WL.nil (Thn_n ?_)
    refine CW.seq ?_
    refine CW.ite rfl (fun h => ?_) (fun h => ?_)
    · obtain hlk : k < 4 := by omega
      refine CW.skip (Thn_n ?_)
      refine CW.seq ?_
      refine CW.block ?_
      refine CW.seq ?_
      refine CW.region ?_
      refine WL.step rfl (Stp.res rfl rfl (Res.move rfl rfl) ?_)
      refine WL.step rfl (Stp.res rfl rfl (Res.index1 (v := byte (m.getD k 0)) rfl rfl rfl underlying185 sz5 underlying5 rfl (Int.toNat_natCast k) (by omega) (bs_get (by omega))) ?_)
      refine WL.step rfl (Stp.res rfl rfl (Res.assign rfl rfl) ?_)
      refine WL.step rfl (Stp.res rfl rfl (Res.assign rfl rfl) ?_)
      refine WL.nil (Thn_n ?_)
      refine CW.region ?_
      refine WL.step rfl (Stp.res rfl rfl (Res.move rfl rfl) ?_)
      refine WL.step rfl (Stp.res rfl rfl (Res.move rfl rfl) ?_)
      refine WL.step rfl (Stp.res rfl rfl (Res.andNotI (a := i) (b := 3) rfl rfl rfl (by omega)) ?_)
      refine WL.step rfl (Stp.res rfl rfl (Res.move rfl rfl) ?_)
      refine WL.step rfl (Stp.res rfl rfl (Res.move rfl rfl) ?_)
      refine WL.step rfl (Stp.res rfl rfl (Res.add rfl rfl rfl (by omega)) ?_)
      refine WL.step rfl (Stp.res rfl rfl (Res.andI (a := i + k) (b := 3) rfl rfl rfl (by omega)) ?_)
      refine WL.step rfl (Stp.res rfl rfl (Res.orI rfl rfl rfl (Aes.mix_lt' hlt hlk)) ?_)
      refine WL.step rfl (Stp.res rfl rfl (Res.idxA0 rfl rfl rfl underlying237 sz5 (Int.toNat_natCast _) (by have := Aes.mix_lt hlt hlk; omega)) ?_)
      refine WL.step rfl (Stp.res rfl rfl (Res.load1 rfl rfl underlying5 rfl (hS.ocell (i := 0) rfl (bs_get (by have := Aes.mix_lt hlt hlk; omega)))) ?_)
      refine WL.step rfl (Stp.res rfl rfl (Res.move rfl rfl) ?_)
      refine WL.step rfl (Stp.callA (args := [_, _]) rfl rfl rfl cal169 rfl rfl (times_ok _ _ _) ?_)
      refine WL.step rfl (Stp.res rfl rfl (Res.xorB _ rfl rfl rfl) ?_)
      refine WL.step rfl (Stp.res rfl rfl (Res.assign rfl rfl) ?_)
      refine WL.nil (Blk_n (Thn_n ?_))
      refine CW.region ?_
      refine WL.step rfl (Stp.res rfl rfl (Res.add rfl rfl rfl (by omega)) ?_)
      refine WL.step rfl (Stp.res rfl rfl (Res.move rfl rfl) ?_)
      refine WL.nil (Thn_n ?_)
      exact ⟨k + 1, ⟨rfl, rfl, rfl, rfl, rfl, rfl, rfl, rfl, trivial⟩, ⟨by omega, hS⟩, by omega⟩
    · obtain rfl : k = 4 := by omega
      refine CW.exit (Thn_x (Thn_x (Blk_x (Thn_n ?_))))
      refine CW.region ?_
      refine WL.step rfl (Stp.res rfl rfl (Res.move rfl rfl) ?_)
      refine WL.step rfl (Stp.res rfl rfl (Res.move rfl rfl) ?_)
      refine WL.step rfl (Stp.res rfl rfl (Res.move rfl rfl) ?_)
      refine WL.step rfl (Stp.res rfl rfl (Res.nilCheck rfl rfl) ?_)
      first | refine WL.step rfl (Stp.res rfl rfl (Res.idxA0 rfl rfl rfl underlying237 sz5 (by first | exact Int.toNat_natCast _ | rfl) (by omega)) ?_) | refine WL.step rfl (Stp.res rfl rfl (Res.idxA1 rfl rfl rfl underlying237 sz5 (by first | exact Int.toNat_natCast _ | rfl) (by omega)) ?_)
      first | refine WL.step rfl (Stp.storeB 0 rfl rfl rfl sz5 rfl hS rfl (by first | omega | (simp; omega)) ?_) | refine WL.step rfl (Stp.storeB 1 rfl rfl rfl sz5 rfl hS rfl (by first | omega | (simp; omega)) ?_) | refine WL.step rfl (Stp.storeB 2 rfl rfl rfl sz5 rfl hS rfl (by first | omega | (simp; omega)) ?_)
      intro w hS hpt
      refine WL.nil (Blk_n (Thn_n ?_))
      refine CW.region ?_
      refine WL.step rfl (Stp.res rfl rfl (Res.add rfl rfl rfl (by omega)) ?_)
      refine WL.step rfl (Stp.res rfl rfl (Res.move rfl rfl) ?_)
      refine WL.nil (Thn_n ?_)
      refine ⟨i + 1, ⟨rfl, rfl, rfl, rfl, trivial⟩, ⟨by omega, ?_⟩, by omega⟩
      rw [← Aes.upTo_set]
      exact hS
  · obtain rfl : i = 16 := by omega
    refine CW.exit (Thn_x (Thn_x (Blk_x ?_)))
    rw [Aes.upTo_all _ _ 16 hl] at hS
    exact fq_none rfl ⟨M, _, (hS.drop (i := 0) rfl hb4).drop (i := 0) rfl hb3, PH.le.refl _, Fresh.refl _ _, rfl, rfl, rfl⟩
end Go.Proofs.YtcmgimicdcchlaaGreatDoor
set_option linter.unusedVariables false
set_option maxRecDepth 20000
namespace Go.Proofs.YtcmgimicdcchlaaGreatDoor
open Go.Proofs.Tryz
open Go Go.E
theorem keys_ok (v : Value) (key : List UInt8) (w0 : World) (M : PH) (hM : On M w0) (hkey : Bs M v key) (hk : key.length = 16) : Ok Tryz.prog 168 #[v] w0 M (fun M' r => M = M' ∧ r = .tuple #[.agg (bs (Aes.keysL key)), .int .i64 0]) := by
  have hS := hM.st
  obtain ⟨kb, ko, kc, rfl, hkc, hkm, hkcell⟩ := hkey.at (by omega)
  refine enterB (l := [.slice (some ⟨kb, ko, none⟩) key.length kc]) 72 func168 rfl ntmps168 rfl ?_
  refine CW.seq ?_
  refine CW.region ?_
  refine WL.step rfl (Stp.alloc (cs := bs (List.replicate 176 0)) rfl z180 rfl rfl rfl hS ?_)
  intro b2 w hb2 hS hkp hnw
  refine WL.step rfl (Stp.res rfl rfl (Res.assign rfl rfl) ?_)
  refine WL.nil (Thn_n ?_)
  refine CW.seq ?_
  refine CW.region ?_
  refine WL.step rfl (Stp.alloc (cs := bs (List.replicate 176 0)) rfl z180 rfl rfl rfl hS ?_)
  intro b4 w hb4 hS hkp hnw
  refine WL.nil (Thn_n ?_)
  refine CW.seq ?_
  refine CW.seq ?_
  refine CW.region ?_
  refine WL.step rfl (Stp.res rfl rfl (Res.move rfl rfl) ?_)
  refine WL.step rfl (Stp.res rfl rfl (Res.len rfl rfl rfl rfl underlying30) ?_)
  refine WL.step rfl (Stp.res rfl rfl (Res.neq rfl rfl rfl) ?_)
  refine WL.nil (Thn_n ?_)
  refine CW.iteF rfl (by omega) ?_
  refine CW.skip (Thn_n ?_)
  refine CW.seq ?_
  refine CW.region ?_
  refine WL.step rfl (Stp.res rfl rfl (Res.move rfl rfl) ?_)
  refine WL.step rfl (Stp.res rfl rfl (Res.s2a rfl rfl underlying78 (by omega)) ?_)
  refine WL.step rfl (Stp.res rfl rfl (Res.loadNB (l := key) rfl rfl underlying78 rfl sz78 hk (fun j hj => hS.cell (hkcell j (by omega)))) ?_)
  refine WL.step rfl (Stp.res rfl rfl (Res.idxAN rfl rfl rfl underlying180 sz78 (show (0 : Int).toNat = 0 from rfl) (by omega)) ?_)
  refine WL.step rfl (Stp.storeNB 0 rfl rfl rfl sz78 rfl hS rfl hk (by rw [List.length_replicate]; omega) ?_)
  intro w hS hpt
  refine WL.nil (Thn_n ?_)
  refine CW.seq ?_
  refine CW.region ?_
  refine WL.step rfl (Stp.res rfl rfl (Res.assign (v := byte 1) rfl rfl) ?_)
  refine WL.nil (Thn_n ?_)
  refine CW.seq ?_
  refine CW.seq ?_
  refine CW.region ?_
  refine WL.step rfl (Stp.res rfl rfl (Res.assign rfl rfl) ?_)
  refine WL.nil (Thn_n ?_)
  refine CW.block ?_
  have hS : St w0 w M [(b4, .cells (bs (Aes.upTo (16 * (0 + 1)) (Aes.kf key) (List.replicate 176 0))) 180 (0, 0)), (b2, .cells (bs (List.replicate 176 0)) 180 (0, 0))] := by rw [← Aes.key0 key hk]; exact hS
  refine CW.loop (σ := Nat) (fun r => [(2, .pointer (some ⟨b2, 0, none⟩)), (3, .int .i64 0), (4, .pointer (some ⟨b4, 0, none⟩)), (5, byte (Aes.pow r)), (6, .int .i64 (↑r + 1))])
    (fun r w' => r ≤ 10 ∧ St w0 w' M [(b4, .cells (bs (Aes.upTo (16 * (r + 1)) (Aes.kf key) (List.replicate 176 0))) 180 (0, 0)), (b2, .cells (bs (List.replicate 176 0)) 180 (0, 0))]) (fun r => 11 - r) 0 ⟨rfl, rfl, rfl, rfl, rfl, trivial⟩ ⟨by omega, hS⟩ ?_
  rintro r w1 ⟨hr, hS⟩
  refine CW.seq ?_
  refine CW.seq ?_
  refine CW.region ?_
  refine WL.step rfl (Stp.res rfl rfl (Res.move rfl rfl) ?_)
  refine WL.step rfl (Stp.res rfl rfl (Res.leq rfl rfl rfl) ?_)
  refine WL.nil (Thn_n ?_)
  refine CW.ite rfl (fun h => ?_) (fun h => ?_)
  · obtain hlt : r ≤ 9 := by omega
    refine CW.skip (Thn_n ?_)
    refine CW.seq ?_
    refine CW.block ?_
    refine CW.seq ?_
    have hS := hS.drew
    have hK0 := Kept.refl w1.drew
    have hc9 : ∀ j, j < 16 → w1.drew.cell? ⟨b4, r * 16 + j, none⟩ = some (byte ((Aes.rk key r).getD j 0)) := fun j hj => by
      rw [← Aes.upTo_kf key r j (by omega) hj]
      exact hS.ocell (i := 0) rfl (bs_get (by rw [Aes.upTo_length, List.length_replicate]; omega))
    refine CW.held (Kept w1.drew) mixed ?_
    refine AL.take 0 rfl (by kernel_rfl) (by kernel_rfl) (by kernel_rfl) rfl rfl rfl hK0 (fun w hK => Res.move rfl rfl) ?_
    refine AL.take 1 rfl (by kernel_rfl) (by kernel_rfl) (by kernel_rfl) rfl rfl rfl hK0 (fun w hK => Res.sub rfl rfl rfl (by omega)) ?_
    refine AL.take 2 rfl (by kernel_rfl) (by kernel_rfl) (by kernel_rfl) rfl rfl rfl hK0 (fun w hK => Res.idxAN (k := r) rfl rfl rfl underlying180 sz78 (by omega) (by omega)) ?_
    refine AL.take 3 rfl (by kernel_rfl) (by kernel_rfl) (by kernel_rfl) rfl rfl rfl hK0 (fun w hK => Res.loadNB (l := Aes.rk key r) rfl rfl underlying78 rfl sz78 (Aes.rk_length hk r) (fun j hj => hK.cell (hc9 j hj))) ?_
    refine AL.take 4 rfl (by kernel_rfl) (by kernel_rfl) (by kernel_rfl) rfl rfl rfl hK0 (fun w hK => Res.move rfl rfl) ?_
    refine AL.take 5 rfl (by kernel_rfl) (by kernel_rfl) (by kernel_rfl) rfl rfl rfl hK0 (fun w hK => Res.idxAN (k := r + 1) rfl rfl rfl underlying180 sz78 (by omega) (by omega)) ?_
    refine AL.one 6 rfl (by kernel_rfl) rfl (Stp.alloc (cs := bs (List.replicate 16 0)) rfl z78 rfl rfl rfl hS ?_)
    intro b7 w hb7 hS hkp hnw
    have hn7 := hK0.fresh hnw
    have hK0 := hK0.trans hkp
    refine ⟨hK0, ?_⟩
    refine AL.one 7 rfl (by kernel_rfl) rfl (Stp.storeAllB 0 rfl rfl rfl sz78 rfl hS rfl ⟨List.length_replicate .., Aes.rk_length hk r⟩ ?_)
    intro w hS hpt
    have hK0 := hK0.put hpt (by assumption)
    refine ⟨hK0, ?_⟩
    refine AL.take 8 rfl (by kernel_rfl) (by kernel_rfl) (by kernel_rfl) rfl rfl rfl hK0 (fun w hK => Res.assign rfl rfl) ?_
    refine AL.done (by kernel_rfl) (Thn_n ?_)
    refine CW.seq ?_
    have hS := hS.drew
    refine CW.post (fun L' w' => ∃ b9, w0.heap.size ≤ b9 ∧ Sub [(2, .pointer (some ⟨b2, 0, none⟩)), (3, .int .i64 0), (4, .pointer (some ⟨b4, 0, none⟩)), (5, byte (Aes.pow r)), (6, .int .i64 (↑r + 1)), (7, .pointer (some ⟨b7, 0, none⟩)), (8, .pointer (some ⟨b4, (r + 1) * 16, none⟩)), (9, .pointer (some ⟨b9, 0, none⟩))] L' ∧ St w0 w' M [(b9, .cells (bs (Aes.last0 (Aes.rk key r) (Aes.pow r))) 185 (0, 0)), (b7, .cells (bs (Aes.rk key r)) 78 (0, 0)), (b4, .cells (bs (Aes.upTo (16 * (r + 1)) (Aes.kf key) (List.replicate 176 0))) 180 (0, 0)), (b2, .cells (bs (List.replicate 176 0)) 180 (0, 0))]) ?_ ?_
    · have hK0 := Kept.refl w.drew
      have hSs := hS
      refine CW.held (Kept w.drew) mixed ?_
      first | refine AL.take 1 rfl (by kernel_rfl) (by kernel_rfl) (by kernel_rfl) rfl rfl rfl hK0 (fun w hK => Res.idxA0 rfl rfl rfl underlying78 sz5 (show (13 : Int).toNat = 13 from rfl) (by omega)) ?_ | refine AL.take 1 rfl (by kernel_rfl) (by kernel_rfl) (by kernel_rfl) rfl rfl rfl hK0 (fun w hK => Res.idxA1 rfl rfl rfl underlying78 sz5 (show (13 : Int).toNat = 13 from rfl) (by omega)) ?_
      refine AL.take 2 rfl (by kernel_rfl) (by kernel_rfl) (by kernel_rfl) rfl rfl rfl hK0 (fun w hK => Res.load1 rfl rfl underlying5 rfl (hK.cell (hSs.ocell (i := 0) rfl (bs_get (by rw [Aes.rk_length hk]; omega))))) ?_
      refine AL.take 4 rfl (by kernel_rfl) (by kernel_rfl) (by kernel_rfl) rfl rfl rfl hK0 (fun w hK => Res.move rfl rfl) ?_
      first | refine AL.take 7 rfl (by kernel_rfl) (by kernel_rfl) (by kernel_rfl) rfl rfl rfl hK0 (fun w hK => Res.idxA0 rfl rfl rfl underlying78 sz5 (show (14 : Int).toNat = 14 from rfl) (by omega)) ?_ | refine AL.take 7 rfl (by kernel_rfl) (by kernel_rfl) (by kernel_rfl) rfl rfl rfl hK0 (fun w hK => Res.idxA1 rfl rfl rfl underlying78 sz5 (show (14 : Int).toNat = 14 from rfl) (by omega)) ?_
      refine AL.take 8 rfl (by kernel_rfl) (by kernel_rfl) (by kernel_rfl) rfl rfl rfl hK0 (fun w hK => Res.load1 rfl rfl underlying5 rfl (hK.cell (hSs.ocell (i := 0) rfl (bs_get (by rw [Aes.rk_length hk]; omega))))) ?_
      first | refine AL.take 11 rfl (by kernel_rfl) (by kernel_rfl) (by kernel_rfl) rfl rfl rfl hK0 (fun w hK => Res.idxA0 rfl rfl rfl underlying78 sz5 (show (15 : Int).toNat = 15 from rfl) (by omega)) ?_ | refine AL.take 11 rfl (by kernel_rfl) (by kernel_rfl) (by kernel_rfl) rfl rfl rfl hK0 (fun w hK => Res.idxA1 rfl rfl rfl underlying78 sz5 (show (15 : Int).toNat = 15 from rfl) (by omega)) ?_
      refine AL.take 12 rfl (by kernel_rfl) (by kernel_rfl) (by kernel_rfl) rfl rfl rfl hK0 (fun w hK => Res.load1 rfl rfl underlying5 rfl (hK.cell (hSs.ocell (i := 0) rfl (bs_get (by rw [Aes.rk_length hk]; omega))))) ?_
      first | refine AL.take 15 rfl (by kernel_rfl) (by kernel_rfl) (by kernel_rfl) rfl rfl rfl hK0 (fun w hK => Res.idxA0 rfl rfl rfl underlying78 sz5 (show (12 : Int).toNat = 12 from rfl) (by omega)) ?_ | refine AL.take 15 rfl (by kernel_rfl) (by kernel_rfl) (by kernel_rfl) rfl rfl rfl hK0 (fun w hK => Res.idxA1 rfl rfl rfl underlying78 sz5 (show (12 : Int).toNat = 12 from rfl) (by omega)) ?_
      refine AL.take 16 rfl (by kernel_rfl) (by kernel_rfl) (by kernel_rfl) rfl rfl rfl hK0 (fun w hK => Res.load1 rfl rfl underlying5 rfl (hK.cell (hSs.ocell (i := 0) rfl (bs_get (by rw [Aes.rk_length hk]; omega))))) ?_
      refine AL.two 0 19 rfl rfl (by kernel_rfl) rfl rfl ?_ ?_
      · refine Stp.callB (args := []) rfl rfl rfl cal167 rfl rfl hS (box_ok _ _ hS.on) ?_
        rintro _ w _ hS _ _ hkp ⟨rfl, rfl⟩
        have hK0 := hK0.trans hkp
        refine ⟨hK0, ?_⟩
        refine AL.take 3 rfl (by kernel_rfl) (by kernel_rfl) (by kernel_rfl) rfl rfl rfl hK0 (fun w hK => Res.index1 rfl rfl rfl underlying234 sz5 underlying5 rfl (Int.toNat_natCast _) ⟨Int.natCast_nonneg _, Int.ofNat_lt.2 (UInt8.toNat_lt _)⟩ (bs_get (by rw [Aes.boxL_len]; exact UInt8.toNat_lt _))) ?_
        refine AL.take 5 rfl (by kernel_rfl) (by kernel_rfl) (by kernel_rfl) rfl rfl rfl hK0 (fun w hK => Res.xorB _ rfl rfl rfl) ?_
        refine AL.two 6 19 rfl rfl (by kernel_rfl) rfl rfl ?_ ?_
        · refine Stp.callB (args := []) rfl rfl rfl cal167 rfl rfl hS (box_ok _ _ hS.on) ?_
          rintro _ w _ hS _ _ hkp ⟨rfl, rfl⟩
          have hK0 := hK0.trans hkp
          refine ⟨hK0, ?_⟩
          refine AL.take 9 rfl (by kernel_rfl) (by kernel_rfl) (by kernel_rfl) rfl rfl rfl hK0 (fun w hK => Res.index1 rfl rfl rfl underlying234 sz5 underlying5 rfl (Int.toNat_natCast _) ⟨Int.natCast_nonneg _, Int.ofNat_lt.2 (UInt8.toNat_lt _)⟩ (bs_get (by rw [Aes.boxL_len]; exact UInt8.toNat_lt _))) ?_
          refine AL.two 10 19 rfl rfl (by kernel_rfl) rfl rfl ?_ ?_
          · refine Stp.callB (args := []) rfl rfl rfl cal167 rfl rfl hS (box_ok _ _ hS.on) ?_
            rintro _ w _ hS _ _ hkp ⟨rfl, rfl⟩
            have hK0 := hK0.trans hkp
            refine ⟨hK0, ?_⟩
            refine AL.take 13 rfl (by kernel_rfl) (by kernel_rfl) (by kernel_rfl) rfl rfl rfl hK0 (fun w hK => Res.index1 rfl rfl rfl underlying234 sz5 underlying5 rfl (Int.toNat_natCast _) ⟨Int.natCast_nonneg _, Int.ofNat_lt.2 (UInt8.toNat_lt _)⟩ (bs_get (by rw [Aes.boxL_len]; exact UInt8.toNat_lt _))) ?_
            refine AL.two 14 19 rfl rfl (by kernel_rfl) rfl rfl ?_ ?_
            · refine Stp.callB (args := []) rfl rfl rfl cal167 rfl rfl hS (box_ok _ _ hS.on) ?_
              rintro _ w _ hS _ _ hkp ⟨rfl, rfl⟩
              have hK0 := hK0.trans hkp
              refine ⟨hK0, ?_⟩
              refine AL.take 17 rfl (by kernel_rfl) (by kernel_rfl) (by kernel_rfl) rfl rfl rfl hK0 (fun w hK => Res.index1 rfl rfl rfl underlying234 sz5 underlying5 rfl (Int.toNat_natCast _) ⟨Int.natCast_nonneg _, Int.ofNat_lt.2 (UInt8.toNat_lt _)⟩ (bs_get (by rw [Aes.boxL_len]; exact UInt8.toNat_lt _))) ?_
              refine AL.take 18 rfl (by kernel_rfl) (by kernel_rfl) (by kernel_rfl) rfl rfl rfl hK0 (fun w hK => Res.build (vals := [(0, _), (1, _), (2, _), (3, _)]) (cs := bs (Aes.last0 (Aes.rk key r) (Aes.pow r))) rfl rfl (fun _ => by kernel_rfl)) ?_
              refine AL.one 19 rfl (by kernel_rfl) rfl (Stp.alloc (cs := bs (List.replicate 4 0)) rfl z185 rfl rfl rfl hS ?_)
              intro b9 w hb9 hS hkp hnw
              have hn9 := hK0.fresh hnw
              have hK0 := hK0.trans hkp
              refine ⟨hK0, ?_⟩
              refine AL.one 20 rfl (by kernel_rfl) rfl (Stp.storeAllB 0 rfl rfl rfl sz185 rfl hS rfl ⟨List.length_replicate .., rfl⟩ ?_)
              intro w hS hpt
              have hK0 := hK0.put hpt (by assumption)
              refine ⟨hK0, ?_⟩
              refine AL.done (by kernel_rfl) (Thn_n ?_)
              exact ⟨b9, hb9, ⟨rfl, rfl, rfl, rfl, rfl, rfl, rfl, rfl, trivial⟩, hS⟩
            · refine Stp.alloc (cs := bs (List.replicate 4 0)) rfl z185 rfl rfl rfl hS ?_
              intro b9 w hb9 hS hkp hnw
              have hn9 := hK0.fresh hnw
              have hK0 := hK0.trans hkp
              refine ⟨hK0, ?_⟩
              refine AL.one 14 rfl (by kernel_rfl) rfl (Stp.callB (args := []) rfl rfl rfl cal167 rfl rfl hS (box_ok _ _ hS.on) ?_)
              rintro _ w _ hS _ _ hkp ⟨rfl, rfl⟩
              have hK0 := hK0.trans hkp
              refine ⟨hK0, ?_⟩
              refine AL.take 17 rfl (by kernel_rfl) (by kernel_rfl) (by kernel_rfl) rfl rfl rfl hK0 (fun w hK => Res.index1 rfl rfl rfl underlying234 sz5 underlying5 rfl (Int.toNat_natCast _) ⟨Int.natCast_nonneg _, Int.ofNat_lt.2 (UInt8.toNat_lt _)⟩ (bs_get (by rw [Aes.boxL_len]; exact UInt8.toNat_lt _))) ?_
              refine AL.take 18 rfl (by kernel_rfl) (by kernel_rfl) (by kernel_rfl) rfl rfl rfl hK0 (fun w hK => Res.build (vals := [(0, _), (1, _), (2, _), (3, _)]) (cs := bs (Aes.last0 (Aes.rk key r) (Aes.pow r))) rfl rfl (fun _ => by kernel_rfl)) ?_
              refine AL.one 20 rfl (by kernel_rfl) rfl (Stp.storeAllB 0 rfl rfl rfl sz185 rfl hS rfl ⟨List.length_replicate .., rfl⟩ ?_)
              intro w hS hpt
              have hK0 := hK0.put hpt (by assumption)
              refine ⟨hK0, ?_⟩
              refine AL.done (by kernel_rfl) (Thn_n ?_)
              exact ⟨b9, hb9, ⟨rfl, rfl, rfl, rfl, rfl, rfl, rfl, rfl, trivial⟩, hS⟩
          · refine Stp.alloc (cs := bs (List.replicate 4 0)) rfl z185 rfl rfl rfl hS ?_
            intro b9 w hb9 hS hkp hnw
            have hn9 := hK0.fresh hnw
            have hK0 := hK0.trans hkp
            refine ⟨hK0, ?_⟩
            refine AL.one 10 rfl (by kernel_rfl) rfl (Stp.callB (args := []) rfl rfl rfl cal167 rfl rfl hS (box_ok _ _ hS.on) ?_)
            rintro _ w _ hS _ _ hkp ⟨rfl, rfl⟩
            have hK0 := hK0.trans hkp
            refine ⟨hK0, ?_⟩
            refine AL.take 13 rfl (by kernel_rfl) (by kernel_rfl) (by kernel_rfl) rfl rfl rfl hK0 (fun w hK => Res.index1 rfl rfl rfl underlying234 sz5 underlying5 rfl (Int.toNat_natCast _) ⟨Int.natCast_nonneg _, Int.ofNat_lt.2 (UInt8.toNat_lt _)⟩ (bs_get (by rw [Aes.boxL_len]; exact UInt8.toNat_lt _))) ?_
            refine AL.one 14 rfl (by kernel_rfl) rfl (Stp.callB (args := []) rfl rfl rfl cal167 rfl rfl hS (box_ok _ _ hS.on) ?_)
            rintro _ w _ hS _ _ hkp ⟨rfl, rfl⟩
            have hK0 := hK0.trans hkp
            refine ⟨hK0, ?_⟩
            refine AL.take 17 rfl (by kernel_rfl) (by kernel_rfl) (by kernel_rfl) rfl rfl rfl hK0 (fun w hK => Res.index1 rfl rfl rfl underlying234 sz5 underlying5 rfl (Int.toNat_natCast _) ⟨Int.natCast_nonneg _, Int.ofNat_lt.2 (UInt8.toNat_lt _)⟩ (bs_get (by rw [Aes.boxL_len]; exact UInt8.toNat_lt _))) ?_
            refine AL.take 18 rfl (by kernel_rfl) (by kernel_rfl) (by kernel_rfl) rfl rfl rfl hK0 (fun w hK => Res.build (vals := [(0, _), (1, _), (2, _), (3, _)]) (cs := bs (Aes.last0 (Aes.rk key r) (Aes.pow r))) rfl rfl (fun _ => by kernel_rfl)) ?_
            refine AL.one 20 rfl (by kernel_rfl) rfl (Stp.storeAllB 0 rfl rfl rfl sz185 rfl hS rfl ⟨List.length_replicate .., rfl⟩ ?_)
            intro w hS hpt
            have hK0 := hK0.put hpt (by assumption)
            refine ⟨hK0, ?_⟩
            refine AL.done (by kernel_rfl) (Thn_n ?_)
            exact ⟨b9, hb9, ⟨rfl, rfl, rfl, rfl, rfl, rfl, rfl, rfl, trivial⟩, hS⟩
        · refine Stp.alloc (cs := bs (List.replicate 4 0)) rfl z185 rfl rfl rfl hS ?_
          intro b9 w hb9 hS hkp hnw
          have hn9 := hK0.fresh hnw
          have hK0 := hK0.trans hkp
          refine ⟨hK0, ?_⟩
          refine AL.one 6 rfl (by kernel_rfl) rfl (Stp.callB (args := []) rfl rfl rfl cal167 rfl rfl hS (box_ok _ _ hS.on) ?_)
          rintro _ w _ hS _ _ hkp ⟨rfl, rfl⟩
          have hK0 := hK0.trans hkp
          refine ⟨hK0, ?_⟩
          refine AL.take 9 rfl (by kernel_rfl) (by kernel_rfl) (by kernel_rfl) rfl rfl rfl hK0 (fun w hK => Res.index1 rfl rfl rfl underlying234 sz5 underlying5 rfl (Int.toNat_natCast _) ⟨Int.natCast_nonneg _, Int.ofNat_lt.2 (UInt8.toNat_lt _)⟩ (bs_get (by rw [Aes.boxL_len]; exact UInt8.toNat_lt _))) ?_
          refine AL.one 10 rfl (by kernel_rfl) rfl (Stp.callB (args := []) rfl rfl rfl cal167 rfl rfl hS (box_ok _ _ hS.on) ?_)
          rintro _ w _ hS _ _ hkp ⟨rfl, rfl⟩
          have hK0 := hK0.trans hkp
          refine ⟨hK0, ?_⟩
          refine AL.take 13 rfl (by kernel_rfl) (by kernel_rfl) (by kernel_rfl) rfl rfl rfl hK0 (fun w hK => Res.index1 rfl rfl rfl underlying234 sz5 underlying5 rfl (Int.toNat_natCast _) ⟨Int.natCast_nonneg _, Int.ofNat_lt.2 (UInt8.toNat_lt _)⟩ (bs_get (by rw [Aes.boxL_len]; exact UInt8.toNat_lt _))) ?_
          refine AL.one 14 rfl (by kernel_rfl) rfl (Stp.callB (args := []) rfl rfl rfl cal167 rfl rfl hS (box_ok _ _ hS.on) ?_)
          rintro _ w _ hS _ _ hkp ⟨rfl, rfl⟩
          have hK0 := hK0.trans hkp
          refine ⟨hK0, ?_⟩
          refine AL.take 17 rfl (by kernel_rfl) (by kernel_rfl) (by kernel_rfl) rfl rfl rfl hK0 (fun w hK => Res.index1 rfl rfl rfl underlying234 sz5 underlying5 rfl (Int.toNat_natCast _) ⟨Int.natCast_nonneg _, Int.ofNat_lt.2 (UInt8.toNat_lt _)⟩ (bs_get (by rw [Aes.boxL_len]; exact UInt8.toNat_lt _))) ?_
          refine AL.take 18 rfl (by kernel_rfl) (by kernel_rfl) (by kernel_rfl) rfl rfl rfl hK0 (fun w hK => Res.build (vals := [(0, _), (1, _), (2, _), (3, _)]) (cs := bs (Aes.last0 (Aes.rk key r) (Aes.pow r))) rfl rfl (fun _ => by kernel_rfl)) ?_
          refine AL.one 20 rfl (by kernel_rfl) rfl (Stp.storeAllB 0 rfl rfl rfl sz185 rfl hS rfl ⟨List.length_replicate .., rfl⟩ ?_)
          intro w hS hpt
          have hK0 := hK0.put hpt (by assumption)
          refine ⟨hK0, ?_⟩
          refine AL.done (by kernel_rfl) (Thn_n ?_)
          exact ⟨b9, hb9, ⟨rfl, rfl, rfl, rfl, rfl, rfl, rfl, rfl, trivial⟩, hS⟩
      · refine Stp.alloc (cs := bs (List.replicate 4 0)) rfl z185 rfl rfl rfl hS ?_
        intro b9 w hb9 hS hkp hnw
        have hn9 := hK0.fresh hnw
        have hK0 := hK0.trans hkp
        refine ⟨hK0, ?_⟩
        refine AL.one 0 rfl (by kernel_rfl) rfl (Stp.callB (args := []) rfl rfl rfl cal167 rfl rfl hS (box_ok _ _ hS.on) ?_)
        rintro _ w _ hS _ _ hkp ⟨rfl, rfl⟩
        have hK0 := hK0.trans hkp
        refine ⟨hK0, ?_⟩
        refine AL.take 3 rfl (by kernel_rfl) (by kernel_rfl) (by kernel_rfl) rfl rfl rfl hK0 (fun w hK => Res.index1 rfl rfl rfl underlying234 sz5 underlying5 rfl (Int.toNat_natCast _) ⟨Int.natCast_nonneg _, Int.ofNat_lt.2 (UInt8.toNat_lt _)⟩ (bs_get (by rw [Aes.boxL_len]; exact UInt8.toNat_lt _))) ?_
        refine AL.take 5 rfl (by kernel_rfl) (by kernel_rfl) (by kernel_rfl) rfl rfl rfl hK0 (fun w hK => Res.xorB _ rfl rfl rfl) ?_
        refine AL.one 6 rfl (by kernel_rfl) rfl (Stp.callB (args := []) rfl rfl rfl cal167 rfl rfl hS (box_ok _ _ hS.on) ?_)
        rintro _ w _ hS _ _ hkp ⟨rfl, rfl⟩
        have hK0 := hK0.trans hkp
        refine ⟨hK0, ?_⟩
        refine AL.take 9 rfl (by kernel_rfl) (by kernel_rfl) (by kernel_rfl) rfl rfl rfl hK0 (fun w hK => Res.index1 rfl rfl rfl underlying234 sz5 underlying5 rfl (Int.toNat_natCast _) ⟨Int.natCast_nonneg _, Int.ofNat_lt.2 (UInt8.toNat_lt _)⟩ (bs_get (by rw [Aes.boxL_len]; exact UInt8.toNat_lt _))) ?_
        refine AL.one 10 rfl (by kernel_rfl) rfl (Stp.callB (args := []) rfl rfl rfl cal167 rfl rfl hS (box_ok _ _ hS.on) ?_)
        rintro _ w _ hS _ _ hkp ⟨rfl, rfl⟩
        have hK0 := hK0.trans hkp
        refine ⟨hK0, ?_⟩
        refine AL.take 13 rfl (by kernel_rfl) (by kernel_rfl) (by kernel_rfl) rfl rfl rfl hK0 (fun w hK => Res.index1 rfl rfl rfl underlying234 sz5 underlying5 rfl (Int.toNat_natCast _) ⟨Int.natCast_nonneg _, Int.ofNat_lt.2 (UInt8.toNat_lt _)⟩ (bs_get (by rw [Aes.boxL_len]; exact UInt8.toNat_lt _))) ?_
        refine AL.one 14 rfl (by kernel_rfl) rfl (Stp.callB (args := []) rfl rfl rfl cal167 rfl rfl hS (box_ok _ _ hS.on) ?_)
        rintro _ w _ hS _ _ hkp ⟨rfl, rfl⟩
        have hK0 := hK0.trans hkp
        refine ⟨hK0, ?_⟩
        refine AL.take 17 rfl (by kernel_rfl) (by kernel_rfl) (by kernel_rfl) rfl rfl rfl hK0 (fun w hK => Res.index1 rfl rfl rfl underlying234 sz5 underlying5 rfl (Int.toNat_natCast _) ⟨Int.natCast_nonneg _, Int.ofNat_lt.2 (UInt8.toNat_lt _)⟩ (bs_get (by rw [Aes.boxL_len]; exact UInt8.toNat_lt _))) ?_
        refine AL.take 18 rfl (by kernel_rfl) (by kernel_rfl) (by kernel_rfl) rfl rfl rfl hK0 (fun w hK => Res.build (vals := [(0, _), (1, _), (2, _), (3, _)]) (cs := bs (Aes.last0 (Aes.rk key r) (Aes.pow r))) rfl rfl (fun _ => by kernel_rfl)) ?_
        refine AL.one 20 rfl (by kernel_rfl) rfl (Stp.storeAllB 0 rfl rfl rfl sz185 rfl hS rfl ⟨List.length_replicate .., rfl⟩ ?_)
        intro w hS hpt
        have hK0 := hK0.put hpt (by assumption)
        refine ⟨hK0, ?_⟩
        refine AL.done (by kernel_rfl) (Thn_n ?_)
        exact ⟨b9, hb9, ⟨rfl, rfl, rfl, rfl, rfl, rfl, rfl, rfl, trivial⟩, hS⟩
    · rintro L w ⟨b9, hb9, hsub, hS⟩
      refine (Thn_n (CW.sub hsub ?_))
      refine CW.seq ?_
      refine CW.seq ?_
      refine CW.region ?_
      refine WL.step rfl (Stp.res rfl rfl (Res.move rfl rfl) ?_)
      refine WL.nil (Thn_n ?_)
      refine CW.block ?_
      refine CW.loop (σ := Nat) (fun j => [(2, .pointer (some ⟨b2, 0, none⟩)), (3, .int .i64 0), (4, .pointer (some ⟨b4, 0, none⟩)), (5, byte (Aes.pow r)), (6, .int .i64 (↑r + 1)), (7, .pointer (some ⟨b7, 0, none⟩)), (8, .pointer (some ⟨b4, (r + 1) * 16, none⟩)), (9, .pointer (some ⟨b9, 0, none⟩)), (48, .int .i64 j)])
        (fun j w' => j ≤ 16 ∧ St w0 w' M [(b9, .cells (bs (Aes.lastAt (Aes.rk key r) (Aes.pow r) j)) 185 (0, 0)), (b7, .cells (bs (Aes.rk key r)) 78 (0, 0)), (b4, .cells (bs (Aes.upTo (16 * (r + 1) + j) (Aes.kf key) (List.replicate 176 0))) 180 (0, 0)), (b2, .cells (bs (List.replicate 176 0)) 180 (0, 0))]) (fun j => 16 - j) 0 ⟨rfl, rfl, rfl, rfl, rfl, rfl, rfl, rfl, rfl, trivial⟩ ⟨by omega, hS⟩ ?_
      rintro j w2 ⟨hj, hS⟩
      refine CW.seq ?_
      refine CW.region ?_
      refine WL.step rfl (Stp.res rfl rfl (Res.lss rfl rfl rfl) ?_)
      refine WL.nil (Thn_n ?_)
      refine CW.seq ?_
      refine CW.ite rfl (fun h2 => ?_) (fun h2 => ?_)
      · obtain hlj : j < 16 := by omega
        refine CW.skip (Thn_n ?_)
        refine CW.seq ?_
        refine CW.block ?_
        refine CW.seq ?_
        refine CW.region ?_
        refine WL.step rfl (Stp.res rfl rfl (Res.move rfl rfl) ?_)
        refine WL.step rfl (Stp.res rfl rfl (Res.assign rfl rfl) ?_)
        refine WL.nil (Thn_n ?_)
        refine CW.seq ?_
        have hS := hS.drew
        refine CW.tail 9 mixed (by kernel_rfl) ?_
        refine SL.step rfl rfl rfl (Res.move rfl rfl) ?_
        refine SL.step rfl rfl rfl (Res.rem rfl rfl rfl (by omega)) ?_
        refine SL.step rfl rfl rfl (Res.idxA0 (k := j % 4) rfl rfl rfl underlying185 sz5 (by omega) (by omega)) ?_
        refine SL.step rfl rfl rfl (Res.load1 rfl rfl underlying5 rfl (hS.ocell (i := 0) rfl (bs_get (by rw [Aes.lastAt_length]; omega)))) ?_
        refine SL.step rfl rfl rfl (Res.move rfl rfl) ?_
        first | refine SL.step rfl rfl rfl (Res.idxA0 rfl rfl rfl underlying78 sz5 (by first | exact Int.toNat_natCast _ | rfl) (by omega)) ?_ | refine SL.step rfl rfl rfl (Res.idxA1 rfl rfl rfl underlying78 sz5 (by first | exact Int.toNat_natCast _ | rfl) (by omega)) ?_
        refine SL.step rfl rfl rfl (Res.load1 rfl rfl underlying5 rfl (hS.ocell (i := 1) rfl (bs_get (by rw [Aes.rk_length hk]; omega)))) ?_
        refine SL.step rfl rfl rfl (Res.xorB _ rfl rfl rfl) ?_
        refine SL.step rfl rfl rfl (Res.idxA0 (k := j % 4) rfl rfl rfl underlying185 sz5 (by omega) (by omega)) ?_
        refine SL.nil ?_
        refine WL.step rfl (Stp.storeB 0 rfl rfl rfl sz5 rfl hS rfl (by rw [Aes.lastAt_length]; omega) ?_)
        intro w hS hpt
        change St w0 w M [(b9, .cells (bs (Aes.lastAt (Aes.rk key r) (Aes.pow r) (j + 1))) 185 (0, 0)), (b7, .cells (bs (Aes.rk key r)) 78 (0, 0)), (b4, .cells (bs (Aes.upTo (16 * (r + 1) + j) (Aes.kf key) (List.replicate 176 0))) 180 (0, 0)), (b2, .cells (bs (List.replicate 176 0)) 180 (0, 0))] at hS
        refine WL.nil (Thn_n ?_)
        have hS := hS.drew
        refine CW.tail 8 mixed (by kernel_rfl) ?_
        refine SL.step rfl rfl rfl (Res.move rfl rfl) ?_
        refine SL.step rfl rfl rfl (Res.move rfl rfl) ?_
        refine SL.step rfl rfl rfl (Res.move rfl rfl) ?_
        refine SL.step rfl rfl rfl (Res.rem rfl rfl rfl (by omega)) ?_
        refine SL.step rfl rfl rfl (Res.idxA0 (k := j % 4) rfl rfl rfl underlying185 sz5 (by omega) (by omega)) ?_
        refine SL.step rfl rfl rfl (Res.load1 rfl rfl underlying5 rfl (hS.ocell (i := 0) rfl (bs_get (by rw [Aes.lastAt_length]; omega)))) ?_
        refine SL.step rfl rfl rfl (Res.nilCheck rfl rfl) ?_
        refine SL.step rfl rfl rfl (Res.idxA1 (k := j) rfl rfl rfl underlying78 sz5 (by omega) (by omega)) ?_
        refine SL.nil ?_
        refine WL.step rfl (Stp.storeB 2 rfl rfl rfl sz5 rfl hS rfl (by rw [Aes.upTo_length, List.length_replicate]; omega) ?_)
        intro w hS hpt
        refine WL.nil (Blk_n (Thn_n ?_))
        refine CW.region ?_
        refine WL.step rfl (Stp.res rfl rfl (Res.add rfl rfl rfl (by omega)) ?_)
        refine WL.step rfl (Stp.res rfl rfl (Res.move rfl rfl) ?_)
        refine WL.nil (Thn_n ?_)
        refine ⟨j + 1, ⟨rfl, rfl, rfl, rfl, rfl, rfl, rfl, rfl, rfl, trivial⟩, ⟨by omega, ?_⟩, by omega⟩
        rw [← Aes.upTo_key key r j hlj]
        exact hS
      · obtain rfl : j = 16 := by omega
        refine CW.exit (Thn_x (Thn_x (Blk_x (Thn_n ?_))))
        refine CW.region ?_
        refine WL.step rfl (Stp.res rfl rfl (Res.move rfl rfl) ?_)
        refine WL.step rfl (Stp.callA (args := [_]) rfl rfl rfl cal178 rfl rfl (twice_ok _ _) ?_)
        refine WL.step rfl (Stp.res rfl rfl (Res.assign rfl rfl) ?_)
        refine WL.nil (Blk_n (Thn_n ?_))
        refine CW.region ?_
        refine WL.step rfl (Stp.res rfl rfl (Res.move rfl rfl) ?_)
        refine WL.step rfl (Stp.res rfl rfl (Res.add rfl rfl rfl (by omega)) ?_)
        refine WL.step rfl (Stp.res rfl rfl (Res.assign rfl rfl) ?_)
        refine WL.nil (Thn_n ?_)
        refine ⟨r + 1, ⟨rfl, rfl, rfl, rfl, rfl, trivial⟩, ⟨by omega, ?_⟩, by omega⟩
        have e : 16 * (r + 1) + 16 = 16 * (r + 1 + 1) := by omega
        rw [e] at hS
        exact (hS.drop (i := 0) rfl hb9).drop (i := 0) rfl hb7
  · obtain rfl : r = 10 := by omega
    refine CW.exit (Thn_x (Thn_x (Blk_x (Thn_n ?_))))
    refine CW.seq ?_
    refine CW.region ?_
    refine WL.step rfl (Stp.res rfl rfl (Res.loadAll rfl rfl underlying180 rfl (by rw [size_bs, Aes.upTo_length, List.length_replicate]; exact sz180) (hS.get (i := 0) rfl)) ?_)
    refine WL.step rfl (Stp.storeAllB 1 rfl rfl rfl sz180 rfl hS rfl ⟨List.length_replicate .., by rw [Aes.upTo_length, List.length_replicate]⟩ ?_)
    intro w hS hpt
    refine WL.step rfl (Stp.res rfl rfl (Res.assign rfl rfl) ?_)
    refine WL.nil (Thn_n ?_)
    refine CW.ret ?_
    refine fq_cell_tmp rfl rfl rfl (hS.get (i := 1) rfl) underlying180 rfl (by rw [size_bs, Aes.upTo_length, List.length_replicate]; exact sz180) ⟨M, (hS.drop (i := 0) rfl hb4).drop (i := 0) rfl hb2, PH.le.refl _, Fresh.refl _ _, rfl, ?_⟩
    rw [Aes.upTo_all _ _ 176 (List.length_replicate ..)]
    rfl
theorem start_ok (kv bv : Value) (key blk : List UInt8) (w0 : World) (M : PH) (hM : On M w0) (hkey : Bs M kv key) (hblk : Bs M bv blk) (hk : key.length = 16) (hb16 : blk.length = 16) : Ok Tryz.prog 154 #[kv, bv] w0 M (fun M' r => ∃ b, M b = none ∧ w0.heap.size ≤ b ∧ M' b = some (.cells (bs blk) 237 (0, 0)) ∧ r = .tuple #[.pointer (some ⟨b, 0, none⟩), .agg (bs (Aes.keysL key)), .int .i64 0]) := by
  have hS := hM.st
  have hkey0 := hkey
  obtain ⟨kv_a, kv_c, rfl, kv_1, kv_2, kv_3, kv_4⟩ := hkey
  obtain ⟨bb, bo, bc, rfl, hbc, hbm, hbcell⟩ := hblk.at (by omega)
  refine enterB (l := [.slice kv_a key.length kv_c, .slice (some ⟨bb, bo, none⟩) blk.length bc]) 28 func154 rfl ntmps154 rfl ?_
  refine CW.seq ?_
  refine CW.region ?_
  refine WL.step rfl (Stp.res rfl rfl (Res.assign rfl rfl) ?_)
  refine WL.step rfl (Stp.alloc (cs := bs (List.replicate 176 0)) rfl z180 rfl rfl rfl hS ?_)
  intro b5 w hb5 hS hkp hnw
  refine WL.step rfl (Stp.res rfl rfl (Res.assign rfl rfl) ?_)
  refine WL.nil (Thn_n ?_)
  refine CW.seq ?_
  refine CW.region ?_
  refine WL.step rfl (Stp.res rfl rfl (Res.move rfl rfl) ?_)
  refine WL.step rfl (Stp.callB (args := [_]) rfl rfl rfl cal168 rfl rfl hS (keys_ok _ _ _ _ hS.on hkey0 hk) ?_)
  rintro _ w _ hS _ _ hkp ⟨rfl, rfl⟩
  refine WL.step rfl (Stp.res rfl rfl (Res.move rfl rfl) ?_)
  refine WL.step rfl (Stp.res rfl rfl (Res.extract (l := [_, _]) rfl rfl rfl) ?_)
  refine WL.step rfl (Stp.res rfl rfl (Res.extract (l := [_, _]) rfl rfl rfl) ?_)
  refine WL.step rfl (Stp.alloc (cs := bs (List.replicate 176 0)) rfl z180 rfl rfl rfl hS ?_)
  intro b7 w hb7 hS hkp hnw
  refine WL.step rfl (Stp.storeAllB 0 rfl rfl rfl sz180 rfl hS rfl ⟨List.length_replicate .., Aes.keysL_length _⟩ ?_)
  intro w hS hpt
  refine WL.step rfl (Stp.res rfl rfl (Res.assign rfl rfl) ?_)
  refine WL.nil (Thn_n ?_)
  refine CW.seq ?_
  refine CW.seq ?_
  refine CW.region ?_
  refine WL.step rfl (Stp.res rfl rfl (Res.move rfl rfl) ?_)
  refine WL.step rfl (Stp.res rfl rfl (Res.neq rfl rfl rfl) ?_)
  refine WL.step rfl (Stp.res rfl rfl (Res.move rfl rfl) ?_)
  refine WL.stepG 2 false rfl rfl rfl rfl (Stp.res rfl rfl (Res.move rfl rfl) ?_)
  refine WL.stepG 2 false rfl rfl rfl rfl (Stp.res rfl rfl (Res.len rfl rfl rfl rfl underlying30) ?_)
  refine WL.stepG 2 false rfl rfl rfl rfl (Stp.res rfl rfl (Res.neq rfl rfl rfl) ?_)
  refine WL.step rfl (Stp.res rfl rfl (Res.pickF rfl rfl rfl) ?_)
  refine WL.nil (Thn_n ?_)
  refine CW.iteF rfl (by omega) ?_
  refine CW.skip (Thn_n ?_)
  refine CW.seq ?_
  refine CW.region ?_
  refine WL.step rfl (Stp.res rfl rfl (Res.move rfl rfl) ?_)
  refine WL.step rfl (Stp.res rfl rfl (Res.s2a rfl rfl underlying237 (by omega)) ?_)
  refine WL.step rfl (Stp.res rfl rfl (Res.loadNB (l := blk) rfl rfl underlying237 rfl sz237 hb16 (fun j hj => hS.cell (hbcell j (by omega)))) ?_)
  refine WL.step rfl (Stp.alloc (cs := bs (List.replicate 16 0)) rfl z237 rfl rfl rfl hS ?_)
  intro b9 w hb9 hS hkp hnw
  refine WL.step rfl (Stp.storeAllB 0 rfl rfl rfl sz237 rfl hS rfl ⟨List.length_replicate .., hb16⟩ ?_)
  intro w hS hpt
  refine WL.nil (Thn_n ?_)
  refine CW.seq ?_
  have hS := hS.drew
  have hK0 : w.drew.heap[b7]? = some (.cells (bs (Aes.keysL key)) 180 (0, 0)) := hS.get (i := 1) rfl
  refine CW.held (fun w' => w'.heap[b7]? = some (.cells (bs (Aes.keysL key)) 180 (0, 0))) mixed ?_
  refine AL.take 0 rfl (by kernel_rfl) (by kernel_rfl) (by kernel_rfl) rfl rfl rfl hK0 (fun w hK => Res.loadAll rfl rfl underlying180 rfl (by rw [size_bs, Aes.keysL_length]; exact sz180) hK) ?_
  refine AL.take 1 rfl (by kernel_rfl) (by kernel_rfl) (by kernel_rfl) rfl rfl rfl hK0 (fun w hK => Res.move rfl rfl) ?_
  refine AL.take 2 rfl (by kernel_rfl) (by kernel_rfl) (by kernel_rfl) rfl rfl rfl hK0 (fun w hK => Res.assign rfl rfl) ?_
  refine AL.one 3 rfl (by kernel_rfl) rfl (Stp.storeAllB 2 rfl rfl rfl sz180 rfl hS rfl ⟨List.length_replicate .., Aes.keysL_length _⟩ ?_)
  intro w hS hpt
  have hK0 : w.heap[b7]? = some (.cells (bs (Aes.keysL key)) 180 (0, 0)) := hS.get (i := 1) rfl
  refine ⟨hK0, ?_⟩
  refine AL.take 4 rfl (by kernel_rfl) (by kernel_rfl) (by kernel_rfl) rfl rfl rfl hK0 (fun w hK => Res.assign rfl rfl) ?_
  refine AL.done (by kernel_rfl) (Thn_n ?_)
  refine CW.ret ?_
  have hM9 : M b9 = none := hS.out (i := 0) rfl
  have hF := hS.freeze (i := 0) rfl hb9
  exact fq_tmp_cell_tmp rfl rfl rfl rfl (hS.get (i := 2) rfl) underlying180 rfl (by rw [size_bs, Aes.keysL_length]; exact sz180) ⟨_, (hF.1.drop (i := 0) rfl hb7).drop (i := 0) rfl hb5, hF.2, Fresh.add _ hb9, _, hM9, hb9, PH.add_self _ _ _, rfl⟩
end Go.Proofs.YtcmgimicdcchlaaGreatDoor
set_option linter.unusedVariables false
set_option maxRecDepth 20000
namespace Go.Proofs.YtcmgimicdcchlaaGreatDoor
open Go.Proofs.Tryz
open Go Go.E
theorem encrypt_ok (kv bv : Value) (key blk : List UInt8) (w0 : World) (M : PH) (hM : On M w0) (hkey : Bs M kv key) (hblk : Bs M bv blk) (hk : key.length = 16) (hb16 : blk.length = 16) : Ok Tryz.prog 152 #[kv, bv] w0 M (fun M' r => ∃ s, r = .tuple #[s, .int .i64 0] ∧ Bs M' s (Aes.enc key blk)) := by
  have hS := hM.st
  refine enterB (l := [kv, bv]) 62 func152 rfl ntmps152 rfl ?_
  refine CW.seq ?_
  refine CW.region ?_
  refine WL.step rfl (Stp.res rfl rfl (Res.assign rfl rfl) ?_)
  refine WL.step rfl (Stp.res rfl rfl (Res.assign rfl rfl) ?_)
  refine WL.nil (Thn_n ?_)
  refine CW.seq ?_
  refine CW.region ?_
  refine WL.step rfl (Stp.res rfl rfl (Res.move rfl rfl) ?_)
  refine WL.step rfl (Stp.res rfl rfl (Res.move rfl rfl) ?_)
  refine WL.step rfl (Stp.callB (args := [_, _]) rfl rfl rfl cal154 rfl rfl hS (start_ok _ _ _ _ _ _ hS.on hkey hblk hk hb16) ?_)
  rintro _ w M' hS hle hfr hkp ⟨b, hMb, hbw, hMb', rfl⟩
  have hS := hS.take hMb' hle hMb
  refine WL.step rfl (Stp.res rfl rfl (Res.move rfl rfl) ?_)
  refine WL.step rfl (Stp.res rfl rfl (Res.extract (l := [_, _, _]) rfl rfl rfl) ?_)
  refine WL.step rfl (Stp.res rfl rfl (Res.extract (l := [_, _, _]) rfl rfl rfl) ?_)
  refine WL.step rfl (Stp.res rfl rfl (Res.extract (l := [_, _, _]) rfl rfl rfl) ?_)
  refine WL.step rfl (Stp.alloc (cs := bs (List.replicate 176 0)) rfl z180 rfl rfl rfl hS ?_)
  intro b7 w hb7 hS hkp hnw
  refine WL.step rfl (Stp.res rfl rfl (Res.assign rfl rfl) ?_)
  refine WL.step rfl (Stp.storeAllB 0 rfl rfl rfl sz180 rfl hS rfl ⟨List.length_replicate .., Aes.keysL_length _⟩ ?_)
  intro w hS hpt
  refine WL.step rfl (Stp.res rfl rfl (Res.assign rfl rfl) ?_)
  refine WL.nil (Thn_n ?_)
  refine CW.seq ?_
  refine CW.seq ?_
  refine CW.region ?_
  refine WL.step rfl (Stp.res rfl rfl (Res.move rfl rfl) ?_)
  refine WL.step rfl (Stp.res rfl rfl (Res.neq rfl rfl rfl) ?_)
  refine WL.nil (Thn_n ?_)
  refine CW.condF rfl ?_
  refine CW.skip (Thn_n ?_)
  refine CW.seq ?_
  have hbw := Nat.le_trans (Nat.le_refl _) hbw
  refine CW.region ?_
  refine WL.step rfl (Stp.res rfl rfl (Res.move rfl rfl) ?_)
  refine WL.step rfl (Stp.res rfl rfl (Res.idxAN (k := 0) rfl rfl rfl underlying180 sz78 rfl (by omega)) ?_)
  refine WL.step rfl (Stp.res rfl rfl (Res.loadNB (l := Aes.rk key (0)) rfl rfl underlying78 rfl sz78 (Aes.rk_length hk _) (fun j hj => hS.ocell (i := 0) rfl (by rw [bs_get (by rw [Aes.keysL_length]; omega), Aes.keysL_at key _ j (by omega) hj]))) ?_)
  refine WL.step rfl (Stp.callO 1 (args := [_, _]) rfl rfl rfl cal155 rfl rfl hS rfl (xor_ok _ _ _ _ _ hS.on _ (hS.get (i := 1) rfl) (hS.out (i := 1) rfl) hb16 (Aes.rk_length hk _)) ?_)
  rintro _ w _ _ hS _ _ _ ⟨rfl, rfl, rfl⟩
  refine WL.nil (Thn_n ?_)
  refine CW.seq ?_
  refine CW.seq ?_
  refine CW.region ?_
  refine WL.step rfl (Stp.res rfl rfl (Res.assign rfl rfl) ?_)
  refine WL.nil (Thn_n ?_)
  refine CW.block ?_
  refine CW.loop (σ := Nat) (fun r => [(6, .pointer (some ⟨b, 0, none⟩)), (7, .pointer (some ⟨b7, 0, none⟩)), (8, .int .i64 0), (9, .int .i64 (↑r + 1))])
    (fun r w' => r ≤ 10 ∧ St w0 w' M [(b7, .cells (bs (Aes.keysL key)) 180 (0, 0)), (b, .cells (bs (Aes.encAt key blk r)) 237 (0, 0))]) (fun r => 11 - r) 0 ⟨rfl, rfl, rfl, rfl, trivial⟩ ⟨by omega, hS⟩ ?_
  rintro r w1 ⟨hr, hS⟩
  refine CW.seq ?_
  refine CW.seq ?_
  refine CW.region ?_
  refine WL.step rfl (Stp.res rfl rfl (Res.move rfl rfl) ?_)
  refine WL.step rfl (Stp.res rfl rfl (Res.leq rfl rfl rfl) ?_)
  refine WL.nil (Thn_n ?_)
  refine CW.ite rfl (fun h => ?_) (fun h => ?_)
  · obtain hlt : r ≤ 9 := by omega
    refine CW.skip (Thn_n ?_)
    refine CW.seq ?_
    refine CW.block ?_
    refine CW.seq ?_
    refine CW.seq ?_
    refine CW.region ?_
    refine WL.step rfl (Stp.res rfl rfl (Res.move rfl rfl) ?_)
    refine WL.step rfl (Stp.res rfl rfl (Res.move rfl rfl) ?_)
    refine WL.nil (Thn_n ?_)
    refine CW.block ?_
    refine CW.loop (σ := Nat) (fun k => [(6, .pointer (some ⟨b, 0, none⟩)), (7, .pointer (some ⟨b7, 0, none⟩)), (8, .int .i64 0), (9, .int .i64 (↑r + 1)), (30, .pointer (some ⟨b, 0, none⟩)), (31, .int .i64 k)])
      (fun k w' => k ≤ 16 ∧ St w0 w' M [(b7, .cells (bs (Aes.keysL key)) 180 (0, 0)), (b, .cells (bs (Aes.upTo k (fun j => Aes.sub ((Aes.encAt key blk r).getD j 0)) (Aes.encAt key blk r))) 237 (0, 0))]) (fun k => 16 - k) 0 ⟨rfl, rfl, rfl, rfl, rfl, rfl, trivial⟩ ⟨by omega, by rw [Aes.upTo_zero]; exact hS⟩ ?_
    rintro k w2 ⟨hj, hS⟩
    refine CW.seq ?_
    refine CW.region ?_
    refine WL.step rfl (Stp.res rfl rfl (Res.lss rfl rfl rfl) ?_)
    refine WL.nil (Thn_n ?_)
    refine CW.seq ?_
    refine CW.ite rfl (fun h2 => ?_) (fun h2 => ?_)
    · obtain hlj : k < 16 := by omega
      refine CW.skip (Thn_n ?_)
      refine CW.seq ?_
      refine CW.block ?_
      refine CW.seq ?_
      have hS := hS.drew
      refine CW.still mixed (by kernel_rfl) ?_
      refine SL.step rfl rfl rfl (Res.move rfl rfl) ?_
      refine SL.step rfl rfl rfl (Res.nilCheck rfl rfl) ?_
      first | refine SL.step rfl rfl rfl (Res.idxA0 rfl rfl rfl underlying237 sz5 (by first | exact Int.toNat_natCast _ | rfl) (by omega)) ?_ | refine SL.step rfl rfl rfl (Res.idxA1 rfl rfl rfl underlying237 sz5 (by first | exact Int.toNat_natCast _ | rfl) (by omega)) ?_
      refine SL.step rfl rfl rfl (Res.load1 rfl rfl underlying5 rfl (hS.ocell (i := 1) rfl (bs_get (by rw [Aes.upTo_length, Aes.encAt_length]; omega)))) ?_
      refine SL.step rfl rfl rfl (Res.assign rfl rfl) ?_
      refine SL.step rfl rfl rfl (Res.assign rfl rfl) ?_
      refine SL.nil (Thn_n ?_)
      have hS := hS.drew
      have hK0 : True := trivial
      refine CW.held (fun _ => True) mixed ?_
      refine AL.take 0 rfl (by kernel_rfl) (by kernel_rfl) (by kernel_rfl) rfl rfl rfl hK0 (fun w hK => Res.move rfl rfl) ?_
      refine AL.take 1 rfl (by kernel_rfl) (by kernel_rfl) (by kernel_rfl) rfl rfl rfl hK0 (fun w hK => Res.move rfl rfl) ?_
      refine AL.take 3 rfl (by kernel_rfl) (by kernel_rfl) (by kernel_rfl) rfl rfl rfl hK0 (fun w hK => Res.move rfl rfl) ?_
      refine AL.take 5 rfl (by kernel_rfl) (by kernel_rfl) (by kernel_rfl) rfl rfl rfl hK0 (fun w hK => Res.nilCheck rfl rfl) ?_
      refine AL.one 2 rfl (by kernel_rfl) rfl (Stp.callB (args := []) rfl rfl rfl cal167 rfl rfl hS (box_ok _ _ hS.on) ?_)
      rintro _ w _ hS _ _ hkp ⟨rfl, rfl⟩
      have hK0 : True := trivial
      refine ⟨hK0, ?_⟩
      refine AL.take 4 rfl (by kernel_rfl) (by kernel_rfl) (by kernel_rfl) rfl rfl rfl hK0 (fun w hK => Res.index1 rfl rfl rfl underlying234 sz5 underlying5 rfl (Int.toNat_natCast _) ⟨Int.natCast_nonneg _, Int.ofNat_lt.2 (UInt8.toNat_lt _)⟩ (bs_get (by rw [Aes.boxL_len]; exact UInt8.toNat_lt _))) ?_
      first | refine AL.take 6 rfl (by kernel_rfl) (by kernel_rfl) (by kernel_rfl) rfl rfl rfl hK0 (fun w hK => Res.idxA0 rfl rfl rfl underlying237 sz5 (by first | exact Int.toNat_natCast _ | rfl) (by omega)) ?_ | refine AL.take 6 rfl (by kernel_rfl) (by kernel_rfl) (by kernel_rfl) rfl rfl rfl hK0 (fun w hK => Res.idxA1 rfl rfl rfl underlying237 sz5 (by first | exact Int.toNat_natCast _ | rfl) (by omega)) ?_
      refine AL.one 7 rfl (by kernel_rfl) rfl (Stp.storeB 1 rfl rfl rfl sz5 rfl hS rfl (by rw [Aes.upTo_length, Aes.encAt_length]; omega) ?_)
      intro w hS hpt
      have hK0 : True := trivial
      refine ⟨hK0, ?_⟩
      refine AL.done (by kernel_rfl) (Blk_n (Thn_n ?_))
      refine CW.region ?_
      refine WL.step rfl (Stp.res rfl rfl (Res.add rfl rfl rfl (by omega)) ?_)
      refine WL.step rfl (Stp.res rfl rfl (Res.move rfl rfl) ?_)
      refine WL.nil (Thn_n ?_)
      refine ⟨k + 1, ⟨rfl, rfl, rfl, rfl, rfl, rfl, trivial⟩, ⟨by omega, ?_⟩, by omega⟩
      rw [Aes.upTo_getD _ _ _ _ (by rw [Aes.encAt_length]; omega), if_neg (by omega)] at hS
      rw [← Aes.upTo_set]
      exact hS
    · obtain rfl : k = 16 := by omega
      rw [Aes.upTo_all _ _ 16 (Aes.encAt_length ..)] at hS
      change St w0 w2 M [(b7, .cells (bs (Aes.keysL key)) 180 (0, 0)), (b, .cells (bs (Aes.subB (Aes.encAt key blk r))) 237 (0, 0))] at hS
      refine CW.exit (Thn_x (Thn_x (Blk_x (Thn_n ?_))))
      refine CW.seq ?_
      refine CW.region ?_
      refine WL.step rfl (Stp.res rfl rfl (Res.move rfl rfl) ?_)
      refine WL.step rfl (Stp.callO 1 (args := [_, _]) rfl rfl rfl cal157 rfl rfl hS rfl (turn1_ok _ _ _ _ hS.on _ (hS.get (i := 1) rfl) (hS.out (i := 1) rfl) (by simp)) ?_)
      rintro _ w _ _ hS _ _ _ ⟨rfl, rfl, rfl⟩
      refine WL.nil (Thn_n ?_)
      refine CW.block ?_
      refine CW.seq ?_
      refine CW.block ?_
      refine CW.seq ?_
      refine CW.block ?_
      refine CW.seq ?_
      refine CW.seq ?_
      refine CW.region ?_
      refine WL.step rfl (Stp.res rfl rfl (Res.move rfl rfl) ?_)
      refine WL.step rfl (Stp.res rfl rfl (Res.lss rfl rfl rfl) ?_)
      refine WL.step rfl (Stp.res rfl rfl (Res.assign rfl rfl) ?_)
      refine WL.nil (Thn_n ?_)
      refine CW.ite rfl (fun h3 => ?_) (fun h3 => ?_)
      · refine CW.exit (Thn_x (Blk_x (Thn_n ?_)))
        refine CW.region ?_
        refine WL.step rfl (Stp.res rfl rfl (Res.move rfl rfl) ?_)
        refine WL.step rfl (Stp.res rfl rfl (Res.build (vals := [(0, byte 2), (1, byte 3), (2, byte 1), (3, byte 1)]) (cs := bs [2, 3, 1, 1]) rfl rfl (fun _ => by kernel_rfl)) ?_)
        refine WL.step rfl (Stp.callO 1 (args := [_, _]) rfl rfl rfl cal156 rfl rfl hS rfl (mix_ok _ [2, 3, 1, 1] _ _ _ hS.on _ (hS.get (i := 1) rfl) (hS.out (i := 1) rfl) (by simp) rfl) ?_)
        rintro _ w _ _ hS _ _ _ ⟨rfl, rfl, rfl⟩
        refine WL.nil (Blk_n (Thn_n ?_))
        refine CW.seq ?_
        refine CW.region ?_
        refine WL.step rfl (Stp.res rfl rfl (Res.move rfl rfl) ?_)
        refine WL.step rfl (Stp.res rfl rfl (Res.move rfl rfl) ?_)
        refine WL.step rfl (Stp.res rfl rfl (Res.idxAN (k := r + 1) rfl rfl rfl underlying180 sz78 (by omega) (by omega)) ?_)
        refine WL.step rfl (Stp.res rfl rfl (Res.loadNB (l := Aes.rk key (r + 1)) rfl rfl underlying78 rfl sz78 (Aes.rk_length hk _) (fun j hj => hS.ocell (i := 0) rfl (by rw [bs_get (by rw [Aes.keysL_length]; omega), Aes.keysL_at key _ j (by omega) hj]))) ?_)
        refine WL.step rfl (Stp.callO 1 (args := [_, _]) rfl rfl rfl cal155 rfl rfl hS rfl (xor_ok _ _ _ _ _ hS.on _ (hS.get (i := 1) rfl) (hS.out (i := 1) rfl) (by simp) (Aes.rk_length hk _)) ?_)
        rintro _ w _ _ hS _ _ _ ⟨rfl, rfl, rfl⟩
        refine WL.nil (Thn_n ?_)
        refine CW.exit (Blk_x (Blk_n (Thn_n ?_)))
        refine CW.region ?_
        refine WL.step rfl (Stp.res rfl rfl (Res.move rfl rfl) ?_)
        refine WL.step rfl (Stp.res rfl rfl (Res.add rfl rfl rfl (by omega)) ?_)
        refine WL.step rfl (Stp.res rfl rfl (Res.assign rfl rfl) ?_)
        refine WL.nil (Thn_n ?_)
        refine ⟨r + 1, ⟨rfl, rfl, rfl, rfl, trivial⟩, ⟨by omega, ?_⟩, by omega⟩
        show St w0 _ M [(b7, .cells (bs (Aes.keysL key)) 180 (0, 0)), (b, .cells (bs (Aes.encRound key (r + 1) (Aes.encAt key blk r))) 237 (0, 0))]
        first | (rw [Aes.encRound, if_pos (by omega)]; exact hS) | (rw [Aes.encRound, if_neg (by omega)]; exact hS)
      · refine CW.skip (Thn_n ?_)
        refine CW.exit (Blk_y rfl (Thn_x (Blk_x (Thn_n ?_))))
        refine CW.seq ?_
        refine CW.region ?_
        refine WL.step rfl (Stp.res rfl rfl (Res.move rfl rfl) ?_)
        refine WL.step rfl (Stp.res rfl rfl (Res.move rfl rfl) ?_)
        refine WL.step rfl (Stp.res rfl rfl (Res.idxAN (k := r + 1) rfl rfl rfl underlying180 sz78 (by omega) (by omega)) ?_)
        refine WL.step rfl (Stp.res rfl rfl (Res.loadNB (l := Aes.rk key (r + 1)) rfl rfl underlying78 rfl sz78 (Aes.rk_length hk _) (fun j hj => hS.ocell (i := 0) rfl (by rw [bs_get (by rw [Aes.keysL_length]; omega), Aes.keysL_at key _ j (by omega) hj]))) ?_)
        refine WL.step rfl (Stp.callO 1 (args := [_, _]) rfl rfl rfl cal155 rfl rfl hS rfl (xor_ok _ _ _ _ _ hS.on _ (hS.get (i := 1) rfl) (hS.out (i := 1) rfl) (by simp) (Aes.rk_length hk _)) ?_)
        rintro _ w _ _ hS _ _ _ ⟨rfl, rfl, rfl⟩
        refine WL.nil (Thn_n ?_)
        refine CW.exit (Blk_x (Blk_n (Thn_n ?_)))
        refine CW.region ?_
        refine WL.step rfl (Stp.res rfl rfl (Res.move rfl rfl) ?_)
        refine WL.step rfl (Stp.res rfl rfl (Res.add rfl rfl rfl (by omega)) ?_)
        refine WL.step rfl (Stp.res rfl rfl (Res.assign rfl rfl) ?_)
        refine WL.nil (Thn_n ?_)
        refine ⟨r + 1, ⟨rfl, rfl, rfl, rfl, trivial⟩, ⟨by omega, ?_⟩, by omega⟩
        show St w0 _ M [(b7, .cells (bs (Aes.keysL key)) 180 (0, 0)), (b, .cells (bs (Aes.encRound key (r + 1) (Aes.encAt key blk r))) 237 (0, 0))]
        first | (rw [Aes.encRound, if_pos (by omega)]; exact hS) | (rw [Aes.encRound, if_neg (by omega)]; exact hS)
  · obtain rfl : r = 10 := by omega
    refine CW.exit (Thn_x (Thn_x (Blk_x (Thn_n ?_))))
    refine CW.seq ?_
    refine CW.region ?_
    refine WL.step rfl (Stp.res rfl rfl (Res.move rfl rfl) ?_)
    refine WL.step rfl (Stp.res rfl rfl (Res.nilCheck rfl rfl) ?_)
    refine WL.step rfl (Stp.res rfl rfl (Res.sliceA rfl rfl underlying237 (by decide) sz5) ?_)
    refine WL.step rfl (Stp.res rfl rfl (Res.move rfl rfl) ?_)
    refine WL.step rfl (Stp.res rfl rfl (Res.assign rfl rfl) ?_)
    refine WL.step rfl (Stp.res rfl rfl (Res.assign rfl rfl) ?_)
    refine WL.nil (Thn_n ?_)
    refine CW.ret ?_
    have hF := hS.freeze (i := 1) rfl hbw
    exact fq_tmp2 rfl rfl rfl ⟨_, hF.1.drop (i := 0) rfl hb7, hF.2, Fresh.add _ hbw, _, rfl, Bs.of' (PH.add_self _ _ _) (Aes.enc_length _ _) (by omega)⟩
end Go.Proofs.YtcmgimicdcchlaaGreatDoor
set_option linter.unusedVariables false
set_option maxRecDepth 20000
namespace Go.Proofs.YtcmgimicdcchlaaGreatDoor
open Go.Proofs.Tryz
open Go Go.E
theorem samebytes_ok (v u : Value) (a b : List UInt8) (M : PH) (w : World) (hM : On M w) (ha : Bs M v a) (hb : Bs M u b) : Calls Tryz.prog 24 #[v, u] w fun e w' => ∃ r, e = .returned r ∧ r = .bool (decide (a = b)) ∧ w' = w := by
  have hS := hM.st
  refine enter (l := [v, u]) 10 func24 rfl ntmps24 rfl ?_
  refine CW.seq ?_
  refine CW.region ?_
  refine WL.step rfl (Stp.res rfl rfl (Res.assign rfl rfl) ?_)
  refine WL.nil (Thn_n ?_)
  refine CW.seq ?_
  refine CW.region ?_
  refine WL.step rfl (Stp.res rfl rfl (Res.move rfl rfl) ?_)
  refine WL.step rfl (Stp.res rfl rfl (Res.b2s rfl rfl hS ha underlying30 underlying5 underlying9) ?_)
  refine WL.step rfl (Stp.res rfl rfl (Res.move rfl rfl) ?_)
  refine WL.step rfl (Stp.res rfl rfl (Res.b2s rfl rfl hS hb underlying30 underlying5 underlying9) ?_)
  refine WL.step rfl (Stp.res rfl rfl (Res.eqlS rfl rfl rfl) ?_)
  refine WL.step rfl (Stp.res rfl rfl (Res.assign rfl rfl) ?_)
  refine WL.nil (Thn_n ?_)
  refine CW.ret ?_
  exact fq_tmp rfl rfl ⟨rfl, rfl⟩
theorem bytes_ok (v : Value) (l : List UInt8) (w0 : World) (M : PH) (hM : On M w0) (hl : Bs M v l) (hlen : l.length ≤ 140737488355328) : Ok Tryz.prog 36 #[v] w0 M (fun M' r => Bs M' r l) := by
  have hS := hM.st
  refine enterB (l := [v]) 6 func36 rfl ntmps36 rfl ?_
  refine CW.seq ?_
  refine CW.region ?_
  refine WL.step rfl (Stp.res rfl rfl (Res.assign rfl rfl) ?_)
  refine WL.nil (Thn_n ?_)
  refine CW.seq ?_
  refine CW.region ?_
  refine WL.step rfl (Stp.lit (vals := []) (cs := bs []) (e := 5) rfl rfl (fun _ => by kernel_rfl) rfl rfl hS ?_)
  intro b3 w hb3 hS hkp hnw
  refine WL.step rfl (Stp.res rfl rfl (Res.move rfl rfl) ?_)
  refine WL.step rfl (Stp.appendB (l := []) (r := l) rfl rfl rfl rfl et30 (Src.ofBs underlying30 hS hl) hS (OwnB.of hb3 (Nat.le_refl 0) (by omega) [] rfl rfl) (by simpa using hlen) rfl rfl ?_)
  intro v' w g' hS hown
  refine WL.step rfl (Stp.res rfl rfl (Res.assign rfl rfl) ?_)
  refine WL.nil (Thn_n ?_)
  refine CW.ret ?_
  obtain ⟨M1, h1, h2, h3, h4⟩ := hown.give hS
  exact fq_tmp rfl rfl ⟨M1, h1, h2, h3, h4⟩
end Go.Proofs.YtcmgimicdcchlaaGreatDoor
set_option linter.unusedVariables false
set_option maxRecDepth 20000
namespace Go.Proofs.YtcmgimicdcchlaaGreatDoor
open Go.Proofs.Tryz
open Go Go.E
theorem rtimes_ok (a b : UInt8) (w : World) : Calls Tryz.prog 161 #[byte a, byte b] w fun e w' => ∃ v, e = .returned v ∧ v = byte (Aes.times a b) ∧ w' = w := by
  refine enter (l := [byte a, byte b]) 30 func161 rfl ntmps161 rfl ?_
  refine CW.seq ?_
  refine CW.region ?_
  refine WL.step rfl (Stp.res rfl rfl (Res.assign (v := byte 0) rfl rfl) ?_)
  refine WL.nil (Thn_n ?_)
  refine CW.seq ?_
  refine CW.region ?_
  refine WL.step rfl (Stp.res rfl rfl (Res.move rfl rfl) ?_)
  refine WL.step rfl (Stp.res rfl rfl (Res.convUp rfl rfl underlying5 underlying3) ?_)
  refine WL.step rfl (Stp.res rfl rfl (Res.assign rfl rfl) ?_)
  refine WL.step rfl (Stp.res rfl rfl (Res.assign rfl rfl) ?_)
  refine WL.nil (Thn_n ?_)
  refine CW.seq ?_
  refine CW.seq ?_
  refine CW.region ?_
  refine WL.step rfl (Stp.res rfl rfl (Res.move rfl rfl) ?_)
  refine WL.step rfl (Stp.res rfl rfl (Res.convUp rfl rfl underlying5 underlying3) ?_)
  refine WL.step rfl (Stp.res rfl rfl (Res.assign rfl rfl) ?_)
  refine WL.nil (Thn_n ?_)
  refine CW.block ?_
  refine CW.loop (σ := Nat × UInt8 × UInt8 × UInt8) (fun s => [(5, .int .i64 (s.2.2.2.toNat : Int)), (6, .int .i64 (s.2.1.toNat : Int)), (7, .int .i64 (s.2.2.1.toNat : Int))])
    (fun s w' => w' = w ∧ s.2.2.1.toNat < 2 ^ s.1 ∧ Aes.timesF s.1 s.2.2.2 s.2.1 s.2.2.1 = Aes.times a b) (fun s => s.2.2.1.toNat) (8, a, b, 0) ⟨rfl, rfl, rfl, trivial⟩ ⟨rfl, b.toNat_lt, rfl⟩ ?_
  rintro ⟨k, a', b', p⟩ w' ⟨rfl, hk, ht⟩
  dsimp only at hk ht ⊢
  have ha8 := a'.toNat_lt
  have hb8 := b'.toNat_lt
  refine CW.seq ?_
  refine CW.seq ?_
  refine CW.region ?_
  refine WL.step rfl (Stp.res rfl rfl (Res.move rfl rfl) ?_)
  refine WL.step rfl (Stp.res rfl rfl (Res.gtr rfl rfl rfl) ?_)
  refine WL.nil (Thn_n ?_)
  refine CW.ite rfl (fun h => ?_) (fun h => ?_)
  · have hp : 0 < b'.toNat := by omega
    refine CW.skip (Thn_n ?_)
    refine CW.seq ?_
    refine CW.block ?_
    refine CW.seq ?_
    refine CW.seq ?_
    refine CW.region ?_
    refine WL.step rfl (Stp.res rfl rfl (Res.move rfl rfl) ?_)
    refine WL.step rfl (Stp.res rfl rfl (Res.rem rfl rfl rfl (by omega)) ?_)
    refine WL.step rfl (Stp.res rfl rfl (Res.eql rfl rfl rfl) ?_)
    refine WL.nil (Thn_n ?_)
    refine CW.ite rfl (fun h2 => ?_) (fun h2 => ?_)
    · have hp5 : ((p.toNat ^^^ a'.toNat : Nat) : Int) = ((p ^^^ a' * (b' &&& 1)).toNat : Int) := by rw [Aes.odd_step p a' b' (by omega), UInt8.toNat_xor]
      refine CW.region ?_
      refine WL.step rfl (Stp.res rfl rfl (Res.move rfl rfl) ?_)
      refine WL.step rfl (Stp.res rfl rfl (Res.move rfl rfl) ?_)
      refine WL.step rfl (Stp.res rfl rfl (Res.xorI (a := p.toNat) (b := a'.toNat) rfl rfl rfl ⟨by have := UInt8.toNat_lt p; omega, by have := UInt8.toNat_lt a'; omega⟩) ?_)
      refine WL.step rfl (Stp.res rfl rfl (Res.assign rfl rfl) ?_)
      refine WL.nil (Thn_n ?_)
      refine CW.seq ?_
      refine CW.region ?_
      refine WL.step rfl (Stp.res rfl rfl (Res.move rfl rfl) ?_)
      refine WL.step rfl (Stp.res rfl rfl (Res.mul rfl rfl rfl (by omega)) ?_)
      refine WL.step rfl (Stp.res rfl rfl (Res.assign rfl rfl) ?_)
      refine WL.nil (Thn_n ?_)
      refine CW.seq ?_
      refine CW.region ?_
      refine WL.step rfl (Stp.res rfl rfl (Res.move rfl rfl) ?_)
      refine WL.step rfl (Stp.res rfl rfl (Res.geq rfl rfl rfl) ?_)
      refine WL.nil (Thn_n ?_)
      refine CW.ite rfl (fun h3 => ?_) (fun h3 => ?_)
      · have ha6 : ((2 * a'.toNat ^^^ 283 : Nat) : Int) = ((Aes.twice a').toNat : Int) := by rw [Aes.twice_big a' (by omega)]
        refine CW.region ?_
        refine WL.step rfl (Stp.res rfl rfl (Res.move rfl rfl) ?_)
        refine WL.step rfl (Stp.res rfl rfl (Res.xorI (a := 2 * a'.toNat) (b := 283) rfl rfl rfl ⟨by have := UInt8.toNat_lt a'; omega, by decide⟩) ?_)
        refine WL.step rfl (Stp.res rfl rfl (Res.assign rfl rfl) ?_)
        refine WL.nil (Blk_n (Thn_n ?_))
        refine CW.region ?_
        refine WL.step rfl (Stp.res rfl rfl (Res.move rfl rfl) ?_)
        refine WL.step rfl (Stp.res rfl rfl (Res.quo rfl rfl rfl (by omega)) ?_)
        refine WL.step rfl (Stp.res rfl rfl (Res.assign rfl rfl) ?_)
        refine WL.nil (Thn_n ?_)
        obtain ⟨k, rfl⟩ : ∃ m, k = m + 1 := ⟨k - 1, by
          have : k ≠ 0 := fun e => by subst e; omega
          omega⟩
        have hb := Aes.half b'
        have hne : ¬ b' = 0 := fun e => by rw [e] at hp; exact absurd hp (by decide)
        refine ⟨(k, Aes.twice a', UInt8.ofNat (b'.toNat / 2 ^ 1), p ^^^ a' * (b' &&& 1)), ⟨i64c hp5, i64c ha6, i64c (by dsimp only; rw [hb]; omega), trivial⟩, ⟨rfl, ?_, ?_⟩, ?_⟩
        · show (UInt8.ofNat (b'.toNat / 2 ^ 1)).toNat < 2 ^ k
          rw [hb, Nat.div_lt_iff_lt_mul (by decide)]; rw [Nat.pow_succ] at hk; exact hk
        · exact (Aes.timesF_step _ _ _ _ hne).symm.trans ht
        · show (UInt8.ofNat (b'.toNat / 2 ^ 1)).toNat < b'.toNat
          omega
      · have ha6 : 2 * (a'.toNat : Int) = ((Aes.twice a').toNat : Int) := by have := Aes.twice_small a' (by omega); omega
        refine CW.skip (Blk_n (Thn_n ?_))
        refine CW.region ?_
        refine WL.step rfl (Stp.res rfl rfl (Res.move rfl rfl) ?_)
        refine WL.step rfl (Stp.res rfl rfl (Res.quo rfl rfl rfl (by omega)) ?_)
        refine WL.step rfl (Stp.res rfl rfl (Res.assign rfl rfl) ?_)
        refine WL.nil (Thn_n ?_)
        obtain ⟨k, rfl⟩ : ∃ m, k = m + 1 := ⟨k - 1, by
          have : k ≠ 0 := fun e => by subst e; omega
          omega⟩
        have hb := Aes.half b'
        have hne : ¬ b' = 0 := fun e => by rw [e] at hp; exact absurd hp (by decide)
        refine ⟨(k, Aes.twice a', UInt8.ofNat (b'.toNat / 2 ^ 1), p ^^^ a' * (b' &&& 1)), ⟨i64c hp5, i64c ha6, i64c (by dsimp only; rw [hb]; omega), trivial⟩, ⟨rfl, ?_, ?_⟩, ?_⟩
        · show (UInt8.ofNat (b'.toNat / 2 ^ 1)).toNat < 2 ^ k
          rw [hb, Nat.div_lt_iff_lt_mul (by decide)]; rw [Nat.pow_succ] at hk; exact hk
        · exact (Aes.timesF_step _ _ _ _ hne).symm.trans ht
        · show (UInt8.ofNat (b'.toNat / 2 ^ 1)).toNat < b'.toNat
          omega
    · have hp5 : (p.toNat : Int) = ((p ^^^ a' * (b' &&& 1)).toNat : Int) := by rw [Aes.even_step p a' b' (by omega)]
      refine CW.skip (Thn_n ?_)
      refine CW.seq ?_
      refine CW.region ?_
      refine WL.step rfl (Stp.res rfl rfl (Res.move rfl rfl) ?_)
      refine WL.step rfl (Stp.res rfl rfl (Res.mul rfl rfl rfl (by omega)) ?_)
      refine WL.step rfl (Stp.res rfl rfl (Res.assign rfl rfl) ?_)
      refine WL.nil (Thn_n ?_)
      refine CW.seq ?_
      refine CW.region ?_
      refine WL.step rfl (Stp.res rfl rfl (Res.move rfl rfl) ?_)
      refine WL.step rfl (Stp.res rfl rfl (Res.geq rfl rfl rfl) ?_)
      refine WL.nil (Thn_n ?_)
      refine CW.ite rfl (fun h3 => ?_) (fun h3 => ?_)
      · have ha6 : ((2 * a'.toNat ^^^ 283 : Nat) : Int) = ((Aes.twice a').toNat : Int) := by rw [Aes.twice_big a' (by omega)]
        refine CW.region ?_
        refine WL.step rfl (Stp.res rfl rfl (Res.move rfl rfl) ?_)
        refine WL.step rfl (Stp.res rfl rfl (Res.xorI (a := 2 * a'.toNat) (b := 283) rfl rfl rfl ⟨by have := UInt8.toNat_lt a'; omega, by decide⟩) ?_)
        refine WL.step rfl (Stp.res rfl rfl (Res.assign rfl rfl) ?_)
        refine WL.nil (Blk_n (Thn_n ?_))
        refine CW.region ?_
        refine WL.step rfl (Stp.res rfl rfl (Res.move rfl rfl) ?_)
        refine WL.step rfl (Stp.res rfl rfl (Res.quo rfl rfl rfl (by omega)) ?_)
        refine WL.step rfl (Stp.res rfl rfl (Res.assign rfl rfl) ?_)
        refine WL.nil (Thn_n ?_)
        obtain ⟨k, rfl⟩ : ∃ m, k = m + 1 := ⟨k - 1, by
          have : k ≠ 0 := fun e => by subst e; omega
          omega⟩
        have hb := Aes.half b'
        have hne : ¬ b' = 0 := fun e => by rw [e] at hp; exact absurd hp (by decide)
        refine ⟨(k, Aes.twice a', UInt8.ofNat (b'.toNat / 2 ^ 1), p ^^^ a' * (b' &&& 1)), ⟨i64c hp5, i64c ha6, i64c (by dsimp only; rw [hb]; omega), trivial⟩, ⟨rfl, ?_, ?_⟩, ?_⟩
        · show (UInt8.ofNat (b'.toNat / 2 ^ 1)).toNat < 2 ^ k
          rw [hb, Nat.div_lt_iff_lt_mul (by decide)]; rw [Nat.pow_succ] at hk; exact hk
        · exact (Aes.timesF_step _ _ _ _ hne).symm.trans ht
        · show (UInt8.ofNat (b'.toNat / 2 ^ 1)).toNat < b'.toNat
          omega
      · have ha6 : 2 * (a'.toNat : Int) = ((Aes.twice a').toNat : Int) := by have := Aes.twice_small a' (by omega); omega
        refine CW.skip (Blk_n (Thn_n ?_))
        refine CW.region ?_
        refine WL.step rfl (Stp.res rfl rfl (Res.move rfl rfl) ?_)
        refine WL.step rfl (Stp.res rfl rfl (Res.quo rfl rfl rfl (by omega)) ?_)
        refine WL.step rfl (Stp.res rfl rfl (Res.assign rfl rfl) ?_)
        refine WL.nil (Thn_n ?_)
        obtain ⟨k, rfl⟩ : ∃ m, k = m + 1 := ⟨k - 1, by
          have : k ≠ 0 := fun e => by subst e; omega
          omega⟩
        have hb := Aes.half b'
        have hne : ¬ b' = 0 := fun e => by rw [e] at hp; exact absurd hp (by decide)
        refine ⟨(k, Aes.twice a', UInt8.ofNat (b'.toNat / 2 ^ 1), p ^^^ a' * (b' &&& 1)), ⟨i64c hp5, i64c ha6, i64c (by dsimp only; rw [hb]; omega), trivial⟩, ⟨rfl, ?_, ?_⟩, ?_⟩
        · show (UInt8.ofNat (b'.toNat / 2 ^ 1)).toNat < 2 ^ k
          rw [hb, Nat.div_lt_iff_lt_mul (by decide)]; rw [Nat.pow_succ] at hk; exact hk
        · exact (Aes.timesF_step _ _ _ _ hne).symm.trans ht
        · show (UInt8.ofNat (b'.toNat / 2 ^ 1)).toNat < b'.toNat
          omega
  · refine CW.exit (Thn_x (Thn_x (Blk_x (Thn_n ?_))))
    refine CW.seq ?_
    refine CW.region ?_
    refine WL.step rfl (Stp.res rfl rfl (Res.move rfl rfl) ?_)
    refine WL.step rfl (Stp.res rfl rfl (Res.convB (k := p.toNat) rfl rfl underlying3 underlying5) ?_)
    refine WL.step rfl (Stp.res rfl rfl (Res.assign rfl rfl) ?_)
    refine WL.nil (Thn_n ?_)
    refine CW.ret ?_
    have h0 : b' = 0 := UInt8.toNat_inj.1 (by have : b'.toNat = 0 := by omega
                                              rw [this]; rfl)
    subst h0
    rw [Aes.timesF_zero] at ht
    exact fq_tmp rfl rfl ⟨by rw [UInt8.ofNat_toNat, ← ht], rfl⟩
end Go.Proofs.YtcmgimicdcchlaaGreatDoor
set_option linter.unusedVariables false
set_option maxRecDepth 20000
namespace Go.Proofs.YtcmgimicdcchlaaGreatDoor
open Go.Proofs.Tryz
open Go Go.E
theorem rtable_ok  (w0 : World) (M : PH) (hM : On M w0)  : Ok Tryz.prog 136 #[] w0 M (fun M' r => Bs M' r Aes.boxL) := by
  have hS := hM.st
  refine enterB (l := []) 57 func136 rfl ntmps136 rfl ?_
  refine CW.seq ?_
  refine CW.region ?_
  refine WL.step rfl (Stp.res rfl rfl (Res.assign rfl rfl) ?_)
  refine WL.nil (Thn_n ?_)
  refine CW.seq ?_
  refine CW.region ?_
  refine WL.step rfl (Stp.lit (vals := []) (cs := bs []) (e := 5) rfl rfl (fun _ => by kernel_rfl) rfl rfl hS ?_)
  intro b10 w hb10 hS hkp hnw
  refine WL.step rfl (Stp.res rfl rfl (Res.assign rfl rfl) ?_)
  refine WL.nil (Thn_n ?_)
  refine CW.seq ?_
  refine CW.region ?_
  refine WL.step rfl (Stp.res rfl rfl (Res.assign (v := byte 1) rfl rfl) ?_)
  refine WL.nil (Thn_n ?_)
  refine CW.seq ?_
  refine CW.seq ?_
  refine CW.region ?_
  refine WL.step rfl (Stp.res rfl rfl (Res.assign rfl rfl) ?_)
  refine WL.nil (Thn_n ?_)
  refine CW.block ?_
  refine CW.loop (σ := Nat × Value × Owned) (fun s => [(1, s.2.1), (2, byte (Aes.pw s.1)), (3, .int .i64 (s.1 : Int))])
    (fun s w' => s.1 ≤ 255 ∧ St w0 w' M (s.2.2 ++ []) ∧ OwnB w0.heap.size s.2.2 s.2.1 (Aes.pwL s.1) 5) (fun s => 255 - s.1) (0, _, [(b10, .cells (bs []) 5 (0, 0))]) ⟨rfl, rfl, rfl, trivial⟩ ⟨by dsimp only; omega, hS, OwnB.of hb10 (Nat.le_refl 0) (by omega) [] rfl rfl⟩ ?_
  rintro ⟨m, v, g⟩ w1 ⟨hm, hS, hown⟩
  dsimp only at hm hS hown ⊢
  refine CW.seq ?_
  refine CW.seq ?_
  refine CW.region ?_
  refine WL.step rfl (Stp.res rfl rfl (Res.move rfl rfl) ?_)
  refine WL.step rfl (Stp.res rfl rfl (Res.lss rfl rfl rfl) ?_)
  refine WL.nil (Thn_n ?_)
  refine CW.ite rfl (fun h => ?_) (fun h => ?_)
  · have hlt : m < 255 := by omega
    refine CW.skip (Thn_n ?_)
    refine CW.seq ?_
    refine CW.block ?_
    refine CW.seq ?_
    refine CW.region ?_
    refine WL.step rfl (Stp.res rfl rfl (Res.move rfl rfl) ?_)
    refine WL.step rfl (Stp.res rfl rfl (Res.move rfl rfl) ?_)
    refine WL.step rfl (Stp.lit (vals := [(0, byte (Aes.pw m))]) (cs := bs [Aes.pw m]) (e := 5) rfl rfl (fun _ => by kernel_rfl) rfl rfl hS ?_)
    intro b17 w hb17 hS hkp hnw
    have hF := hS.freeze (i := 0) rfl hb17
    have hS := hF.1
    change St w0 w _ (g ++ []) at hS
    refine WL.step rfl (Stp.appendB (l := Aes.pwL m) (r := [Aes.pw m]) rfl rfl rfl rfl et30 (Src.ofBs underlying30 hS (Bs.of' (PH.add_self _ _ _) rfl (by omega))) hS hown (by rw [Aes.pwL_len]; show m + 1 ≤ _; omega) rfl rfl ?_)
    intro v' w g' hS hown
    rw [Aes.pwL_succ] at hown
    have hS := hS.known hF.2
    refine WL.step rfl (Stp.res rfl rfl (Res.assign rfl rfl) ?_)
    refine WL.nil (Thn_n ?_)
    refine CW.region ?_
    refine WL.step rfl (Stp.res rfl rfl (Res.move rfl rfl) ?_)
    refine WL.step rfl (Stp.callA (args := [_, byte 3]) rfl rfl rfl cal161 rfl rfl (rtimes_ok _ _ _) ?_)
    refine WL.step rfl (Stp.res rfl rfl (Res.assign rfl rfl) ?_)
    refine WL.nil (Blk_n (Thn_n ?_))
    refine CW.region ?_
    refine WL.step rfl (Stp.res rfl rfl (Res.move rfl rfl) ?_)
    refine WL.step rfl (Stp.res rfl rfl (Res.add rfl rfl rfl (by omega)) ?_)
    refine WL.step rfl (Stp.res rfl rfl (Res.assign rfl rfl) ?_)
    refine WL.nil (Thn_n ?_)
    exact ⟨(m + 1, v', g'), ⟨rfl, bytec (Aes.pw_step hlt), rfl, trivial⟩, ⟨by dsimp only; omega, hS, hown⟩, by dsimp only; omega⟩
  · obtain rfl : m = 255 := by omega
    obtain ⟨bp, cp, capp, hbp, rfl, rfl, hcp⟩ := hown.open (by rw [Aes.pwL_len]; omega)
    change St w0 w1 M [(bp, .cells cp 5 (0, 0))] at hS
    refine CW.exit (Thn_x (Thn_x (Blk_x (Thn_n ?_))))
    refine CW.seq ?_
    refine CW.region ?_
    refine WL.step rfl (Stp.makeB (k := 256) (c := 256) rfl rfl rfl et30 ⟨Nat.le_refl 256, by decide⟩ rfl rfl hS ?_)
    intro b21 w hb21 hS hkp hnw
    refine WL.step rfl (Stp.res rfl rfl (Res.assign rfl rfl) ?_)
    refine WL.nil (Thn_n ?_)
    refine CW.seq ?_
    refine CW.region ?_
    refine WL.step rfl (Stp.res rfl rfl (Res.move rfl rfl) ?_)
    refine WL.step rfl (Stp.res rfl rfl (Res.idxS0 (k := 0) rfl rfl rfl underlying30 sz5 rfl (by decide)) ?_)
    refine WL.step rfl (Stp.storeB (a := 99) 0 rfl rfl rfl sz5 rfl hS rfl (by rw [List.length_replicate]; omega) ?_)
    intro w hS hpt
    refine WL.nil (Thn_n ?_)
    refine CW.seq ?_
    refine CW.seq ?_
    refine CW.region ?_
    refine WL.step rfl (Stp.res rfl rfl (Res.assign rfl rfl) ?_)
    refine WL.nil (Thn_n ?_)
    refine CW.block ?_
    change St w0 w M [(b21, .cells (bs (Aes.tabAt 0)) 5 (0, 0)), (bp, .cells (cp) 5 (0, 0))] at hS
    refine CW.loop (σ := Nat) (fun e => [(1, .slice (some ⟨bp, 0, none⟩) (Aes.pwL 255).length capp), (4, .slice (some ⟨b21, 0, none⟩) 256 256), (5, .int .i64 (e : Int))])
      (fun e w' => e ≤ 255 ∧ St w0 w' M [(b21, .cells (bs (Aes.tabAt e)) 5 (0, 0)), (bp, .cells (cp) 5 (0, 0))]) (fun e => 255 - e) 0 ⟨rfl, rfl, rfl, trivial⟩ ⟨by decide, hS⟩ ?_
    rintro e w2 ⟨he, hS⟩
    refine CW.seq ?_
    refine CW.seq ?_
    refine CW.region ?_
    refine WL.step rfl (Stp.res rfl rfl (Res.move rfl rfl) ?_)
    refine WL.step rfl (Stp.res rfl rfl (Res.lss rfl rfl rfl) ?_)
    refine WL.nil (Thn_n ?_)
    refine CW.ite rfl (fun h => ?_) (fun h => ?_)
    · have hlt : e < 255 := by omega
      refine CW.skip (Thn_n ?_)
      refine CW.seq ?_
      refine CW.block ?_
      refine CW.seq ?_
      refine CW.region ?_
      refine WL.step rfl (Stp.res rfl rfl (Res.move rfl rfl) ?_)
      refine WL.step rfl (Stp.res rfl rfl (Res.move rfl rfl) ?_)
      refine WL.step rfl (Stp.res rfl rfl (Res.sub rfl rfl rfl (by omega)) ?_)
      refine WL.step rfl (Stp.res rfl rfl (Res.rem rfl rfl rfl (by omega)) ?_)
      refine WL.step rfl (Stp.res rfl rfl (Res.idxS0 (k := (255 - e) % 255) rfl rfl rfl underlying30 sz5 (by omega) (by rw [Aes.pwL_len]; omega)) ?_)
      refine WL.step rfl (Stp.res rfl rfl (Res.load1 rfl rfl underlying5 rfl (hS.ocell (i := 1) rfl (by rw [hcp _ (by rw [Aes.pwL_len]; omega), Aes.pwL_at (by omega)]))) ?_)
      refine WL.step rfl (Stp.res rfl rfl (Res.assign rfl rfl) ?_)
      refine WL.nil (Thn_n ?_)
      refine CW.seq ?_
      refine CW.region ?_
      refine WL.step rfl (Stp.res rfl rfl (Res.move rfl rfl) ?_)
      refine WL.step rfl (Stp.res rfl rfl (Res.move rfl rfl) ?_)
      refine WL.step rfl (Stp.res rfl rfl (Res.assign rfl rfl) ?_)
      refine WL.step rfl (Stp.res rfl rfl (Res.assign rfl rfl) ?_)
      refine WL.nil (Thn_n ?_)
      refine CW.seq ?_
      refine CW.seq ?_
      refine CW.region ?_
      refine WL.step rfl (Stp.res rfl rfl (Res.assign rfl rfl) ?_)
      refine WL.nil (Thn_n ?_)
      refine CW.block ?_
      refine CW.loop (σ := Nat) (fun k => [(1, .slice (some ⟨bp, 0, none⟩) (Aes.pwL 255).length capp), (4, .slice (some ⟨b21, 0, none⟩) 256 256), (5, .int .i64 (e : Int)), (6, byte (Aes.pw ((255 - e) % 255))), (7, byte (Aes.affT (Aes.pw ((255 - e) % 255)) k)), (8, byte (Aes.affS (Aes.pw ((255 - e) % 255)) k)), (9, .int .i64 (k : Int))])
        (fun k w' => k ≤ 4 ∧ St w0 w' M [(b21, .cells (bs (Aes.tabAt e)) 5 (0, 0)), (bp, .cells (cp) 5 (0, 0))]) (fun k => 4 - k) 0 ⟨rfl, rfl, rfl, rfl, rfl, rfl, rfl, trivial⟩ ⟨by decide, hS⟩ ?_
      rintro k w3 ⟨hk, hS⟩
      refine CW.seq ?_
      refine CW.seq ?_
      refine CW.region ?_
      refine WL.step rfl (Stp.res rfl rfl (Res.move rfl rfl) ?_)
      refine WL.step rfl (Stp.res rfl rfl (Res.lss rfl rfl rfl) ?_)
      refine WL.nil (Thn_n ?_)
      refine CW.ite rfl (fun h3 => ?_) (fun h3 => ?_)
      · have hlk : k < 4 := by omega
        refine CW.skip (Thn_n ?_)
        refine CW.seq ?_
        refine CW.block ?_
        refine CW.seq ?_
        refine CW.region ?_
        refine WL.step rfl (Stp.res rfl rfl (Res.move rfl rfl) ?_)
        refine WL.step rfl (Stp.res rfl rfl (Res.mulB 2 rfl rfl rfl) ?_)
        refine WL.step rfl (Stp.res rfl rfl (Res.move rfl rfl) ?_)
        refine WL.step rfl (Stp.res rfl rfl (Res.quoB 128 rfl rfl rfl (by decide)) ?_)
        refine WL.step rfl (Stp.res rfl rfl (Res.addB _ rfl rfl rfl) ?_)
        refine WL.step rfl (Stp.res rfl rfl (Res.assign rfl rfl) ?_)
        refine WL.nil (Thn_n ?_)
        refine CW.region ?_
        refine WL.step rfl (Stp.res rfl rfl (Res.move rfl rfl) ?_)
        refine WL.step rfl (Stp.res rfl rfl (Res.move rfl rfl) ?_)
        refine WL.step rfl (Stp.res rfl rfl (Res.xorB _ rfl rfl rfl) ?_)
        refine WL.step rfl (Stp.res rfl rfl (Res.assign rfl rfl) ?_)
        refine WL.nil (Blk_n (Thn_n ?_))
        refine CW.region ?_
        refine WL.step rfl (Stp.res rfl rfl (Res.move rfl rfl) ?_)
        refine WL.step rfl (Stp.res rfl rfl (Res.add rfl rfl rfl (by omega)) ?_)
        refine WL.step rfl (Stp.res rfl rfl (Res.assign rfl rfl) ?_)
        refine WL.nil (Thn_n ?_)
        exact ⟨k + 1, ⟨rfl, rfl, rfl, rfl, rfl, rfl, rfl, trivial⟩, ⟨by omega, hS⟩, by omega⟩
      · obtain rfl : k = 4 := by omega
        refine CW.exit (Thn_x (Thn_x (Blk_x (Thn_n ?_))))
        refine CW.region ?_
        refine WL.step rfl (Stp.res rfl rfl (Res.move rfl rfl) ?_)
        refine WL.step rfl (Stp.res rfl rfl (Res.move rfl rfl) ?_)
        refine WL.step rfl (Stp.res rfl rfl (Res.move rfl rfl) ?_)
        refine WL.step rfl (Stp.res rfl rfl (Res.idxS0 (k := e) rfl rfl rfl underlying30 sz5 (Int.toNat_natCast _) (by rw [Aes.pwL_len]; omega)) ?_)
        refine WL.step rfl (Stp.res rfl rfl (Res.load1 rfl rfl underlying5 rfl (hS.ocell (i := 1) rfl (by rw [hcp _ (by rw [Aes.pwL_len]; omega), Aes.pwL_at (by omega)]))) ?_)
        refine WL.step rfl (Stp.res rfl rfl (Res.move rfl rfl) ?_)
        refine WL.step rfl (Stp.res rfl rfl (Res.xorB 99 rfl rfl rfl) ?_)
        refine WL.step rfl (Stp.res rfl rfl (Res.idxS0 (k := (Aes.pw e).toNat) rfl rfl rfl underlying30 sz5 (Int.toNat_natCast _) (by have := (Aes.pw e).toNat_lt; omega)) ?_)
        refine WL.step rfl (Stp.storeB 0 rfl rfl rfl sz5 rfl hS rfl (by rw [Aes.tabAt_len]; exact UInt8.toNat_lt _) ?_)
        intro w hS hpt
        refine WL.nil (Blk_n (Thn_n ?_))
        refine CW.region ?_
        refine WL.step rfl (Stp.res rfl rfl (Res.move rfl rfl) ?_)
        refine WL.step rfl (Stp.res rfl rfl (Res.add rfl rfl rfl (by omega)) ?_)
        refine WL.step rfl (Stp.res rfl rfl (Res.assign rfl rfl) ?_)
        refine WL.nil (Thn_n ?_)
        exact ⟨e + 1, ⟨rfl, rfl, rfl, trivial⟩, ⟨by omega, hS⟩, by omega⟩
    · obtain rfl : e = 255 := by omega
      refine CW.exit (Thn_x (Thn_x (Blk_x (Thn_n ?_))))
      refine CW.seq ?_
      refine CW.region ?_
      refine WL.step rfl (Stp.res rfl rfl (Res.move rfl rfl) ?_)
      refine WL.step rfl (Stp.res rfl rfl (Res.assign rfl rfl) ?_)
      refine WL.nil (Thn_n ?_)
      refine CW.ret ?_
      rw [Aes.tabAt_all] at hS
      have hF := hS.freeze (i := 0) rfl hb21
      exact fq_tmp rfl rfl ⟨_, hF.1.drop (i := 0) rfl hbp, hF.2, Fresh.add _ hb21, Bs.of' (PH.add_self _ _ _) Aes.boxL_len (by omega)⟩
end Go.Proofs.YtcmgimicdcchlaaGreatDoor
set_option linter.unusedVariables false
set_option maxRecDepth 20000
namespace Go.Proofs.YtcmgimicdcchlaaGreatDoor
open Go.Proofs.Tryz
open Go Go.E
theorem rxor_ok (v : Value) (l k : List UInt8) (w0 : World) (M : PH) (hM : On M w0) (hv : Bs M v l) (hl : l.length = 16) (hk : k.length = 16) : Ok Tryz.prog 138 #[v, .agg (bs k)] w0 M (fun M' r => Bs M' r (Aes.xorB l k)) := by
  have hS := hM.st
  obtain ⟨vb, vo, vc, rfl, vc1, vc2, vcell⟩ := hv.at (by omega)
  refine enterB (l := [.slice (some ⟨vb, vo, none⟩) l.length vc, .agg (bs k)]) 24 func138 rfl ntmps138 rfl ?_
  refine CW.seq ?_
  refine CW.region ?_
  refine WL.step rfl (Stp.boxA rfl rfl rfl rfl hS ?_)
  intro b3 w hb3 hS hkp hnw
  refine WL.step rfl (Stp.res rfl rfl (Res.assign rfl rfl) ?_)
  refine WL.nil (Thn_n ?_)
  refine CW.seq ?_
  refine CW.region ?_
  refine WL.step rfl (Stp.makeB (k := 16) (c := 16) rfl rfl rfl et30 ⟨Nat.le_refl 16, by decide⟩ rfl rfl hS ?_)
  intro b7 w hb7 hS hkp hnw
  refine WL.step rfl (Stp.res rfl rfl (Res.assign rfl rfl) ?_)
  refine WL.nil (Thn_n ?_)
  refine CW.seq ?_
  refine CW.seq ?_
  refine CW.region ?_
  refine WL.step rfl (Stp.res rfl rfl (Res.assign rfl rfl) ?_)
  refine WL.nil (Thn_n ?_)
  refine CW.block ?_
  refine CW.loop (σ := Nat) (fun i => [(0, .slice (some ⟨vb, vo, none⟩) l.length vc), (3, .pointer (some ⟨b3, 0, none⟩)), (5, .slice (some ⟨b7, 0, none⟩) 16 16), (6, .int .i64 (i : Int))])
    (fun i w' => i ≤ 16 ∧ St w0 w' M [(b7, .cells (bs (Aes.upTo i (fun j => l.getD j 0 ^^^ k.getD j 0) (List.replicate 16 0))) 5 (0, 0)), (b3, .cells (bs k) 78 (0, 0))]) (fun i => 16 - i) 0 ⟨rfl, rfl, rfl, rfl, trivial⟩ ⟨by omega, by rw [Aes.upTo_zero]; exact hS⟩ ?_
  rintro i w1 ⟨hi, hS⟩
  refine CW.seq ?_
  refine CW.seq ?_
  refine CW.region ?_
  refine WL.step rfl (Stp.res rfl rfl (Res.move rfl rfl) ?_)
  refine WL.step rfl (Stp.res rfl rfl (Res.lss rfl rfl rfl) ?_)
  refine WL.nil (Thn_n ?_)
  refine CW.ite rfl (fun h => ?_) (fun h => ?_)
  · obtain hlt : i < 16 := by omega
    refine CW.skip (Thn_n ?_)
    refine CW.seq ?_
    refine CW.block ?_
    have hS := hS.drew
    refine CW.tail 11 mixed (by kernel_rfl) ?_
    refine SL.step rfl rfl rfl (Res.move rfl rfl) ?_
    refine SL.step rfl rfl rfl (Res.move rfl rfl) ?_
    refine SL.step rfl rfl rfl (Res.move rfl rfl) ?_
    refine SL.step rfl rfl rfl (Res.move rfl rfl) ?_
    first | refine SL.step rfl rfl rfl (Res.idxS0 rfl rfl rfl underlying30 sz5 (by first | exact Int.toNat_natCast _ | rfl) (by omega)) ?_ | refine SL.step rfl rfl rfl (Res.idxS1 rfl rfl rfl underlying30 sz5 (by first | exact Int.toNat_natCast _ | rfl) (by omega)) ?_
    refine SL.step rfl rfl rfl (Res.load1 rfl rfl underlying5 rfl (by first | exact hS.ocell (i := 0) rfl (bs_get (by first | omega | (simp; done) | (simp; omega))) | exact hS.ocell (i := 1) rfl (bs_get (by first | omega | (simp; done) | (simp; omega))) | exact hS.ocell (i := 2) rfl (bs_get (by first | omega | (simp; done) | (simp; omega))) | exact hS.cell (vcell _ (by omega)))) ?_
    refine SL.step rfl rfl rfl (Res.move rfl rfl) ?_
    first | refine SL.step rfl rfl rfl (Res.idxA0 rfl rfl rfl underlying78 sz5 (by first | exact Int.toNat_natCast _ | rfl) (by omega)) ?_ | refine SL.step rfl rfl rfl (Res.idxA1 rfl rfl rfl underlying78 sz5 (by first | exact Int.toNat_natCast _ | rfl) (by omega)) ?_
    refine SL.step rfl rfl rfl (Res.load1 rfl rfl underlying5 rfl (by first | exact hS.ocell (i := 0) rfl (bs_get (by first | omega | (simp; done) | (simp; omega))) | exact hS.ocell (i := 1) rfl (bs_get (by first | omega | (simp; done) | (simp; omega))) | exact hS.ocell (i := 2) rfl (bs_get (by first | omega | (simp; done) | (simp; omega))) | exact hS.cell (vcell _ (by omega)))) ?_
    refine SL.step rfl rfl rfl (Res.xorB _ rfl rfl rfl) ?_
    first | refine SL.step rfl rfl rfl (Res.idxS0 rfl rfl rfl underlying30 sz5 (by first | exact Int.toNat_natCast _ | rfl) (by omega)) ?_ | refine SL.step rfl rfl rfl (Res.idxS1 rfl rfl rfl underlying30 sz5 (by first | exact Int.toNat_natCast _ | rfl) (by omega)) ?_
    refine SL.nil ?_
    first | refine WL.step rfl (Stp.storeB 0 rfl rfl rfl sz5 rfl hS rfl (by first | omega | (simp; done) | (simp; omega)) ?_) | refine WL.step rfl (Stp.storeB 1 rfl rfl rfl sz5 rfl hS rfl (by first | omega | (simp; done) | (simp; omega)) ?_) | refine WL.step rfl (Stp.storeB 2 rfl rfl rfl sz5 rfl hS rfl (by first | omega | (simp; done) | (simp; omega)) ?_)
    intro w hS hpt
    refine WL.nil (Blk_n (Thn_n ?_))
    refine CW.region ?_
    refine WL.step rfl (Stp.res rfl rfl (Res.move rfl rfl) ?_)
    refine WL.step rfl (Stp.res rfl rfl (Res.add rfl rfl rfl (by omega)) ?_)
    refine WL.step rfl (Stp.res rfl rfl (Res.assign rfl rfl) ?_)
    refine WL.nil (Thn_n ?_)
    refine ⟨i + 1, ⟨rfl, rfl, rfl, rfl, trivial⟩, ⟨by omega, ?_⟩, by omega⟩
    rw [← Aes.upTo_set]
    exact hS
  · obtain rfl : i = 16 := by omega
    refine CW.exit (Thn_x (Thn_x (Blk_x (Thn_n ?_))))
    refine CW.seq ?_
    refine CW.region ?_
    refine WL.step rfl (Stp.res rfl rfl (Res.move rfl rfl) ?_)
    refine WL.step rfl (Stp.res rfl rfl (Res.assign rfl rfl) ?_)
    refine WL.nil (Thn_n ?_)
    refine CW.ret ?_
    rw [Aes.upTo_all _ _ 16 (List.length_replicate ..)] at hS
    have hF := hS.freeze (i := 0) rfl hb7
    exact fq_tmp rfl rfl ⟨_, hF.1.drop (i := 0) rfl hb3, hF.2, Fresh.add _ hb7, Bs.of' (PH.add_self _ _ _) (Aes.xorB_length l k) (by omega)⟩
theorem rmix_ok (v : Value) (l m : List UInt8) (w0 : World) (M : PH) (hM : On M w0) (hv : Bs M v l) (hl : l.length = 16) (hm : m.length = 4) : Ok Tryz.prog 139 #[v, .agg (bs m)] w0 M (fun M' r => Bs M' r (Aes.mixB l m)) := by
  have hS := hM.st
  obtain ⟨vb, vo, vc, rfl, vc1, vc2, vcell⟩ := hv.at (by omega)
  refine enterB (l := [.slice (some ⟨vb, vo, none⟩) l.length vc, .agg (bs m)]) 41 func139 rfl ntmps139 rfl ?_
  refine CW.seq ?_
  refine CW.region ?_
  refine WL.step rfl (Stp.boxA rfl rfl rfl rfl hS ?_)
  intro b3 w hb3 hS hkp hnw
  refine WL.step rfl (Stp.res rfl rfl (Res.assign rfl rfl) ?_)
  refine WL.nil (Thn_n ?_)
  refine CW.seq ?_
  refine CW.region ?_
  refine WL.step rfl (Stp.makeB (k := 16) (c := 16) rfl rfl rfl et30 ⟨Nat.le_refl 16, by decide⟩ rfl rfl hS ?_)
  intro b8 w hb8 hS hkp hnw
  refine WL.step rfl (Stp.res rfl rfl (Res.assign rfl rfl) ?_)
  refine WL.nil (Thn_n ?_)
  refine CW.seq ?_
  refine CW.seq ?_
  refine CW.region ?_
  refine WL.step rfl (Stp.res rfl rfl (Res.assign rfl rfl) ?_)
  refine WL.nil (Thn_n ?_)
  refine CW.block ?_
  refine CW.loop (σ := Nat) (fun i => [(0, .slice (some ⟨vb, vo, none⟩) l.length vc), (3, .pointer (some ⟨b3, 0, none⟩)), (5, .slice (some ⟨b8, 0, none⟩) 16 16), (6, .int .i64 (i : Int))])
    (fun i w' => i ≤ 16 ∧ St w0 w' M [(b8, .cells (bs (Aes.upTo i (fun i => Aes.mixAcc l m i 4) (List.replicate 16 0))) 5 (0, 0)), (b3, .cells (bs m) 185 (0, 0))]) (fun i => 16 - i) 0 ⟨rfl, rfl, rfl, rfl, trivial⟩ ⟨by omega, by rw [Aes.upTo_zero]; exact hS⟩ ?_
  rintro i w1 ⟨hi, hS⟩
  refine CW.seq ?_
  refine CW.seq ?_
  refine CW.region ?_
  refine WL.step rfl (Stp.res rfl rfl (Res.move rfl rfl) ?_)
  refine WL.step rfl (Stp.res rfl rfl (Res.lss rfl rfl rfl) ?_)
  refine WL.nil (Thn_n ?_)
  refine CW.ite rfl (fun h => ?_) (fun h => ?_)
  · obtain hlt : i < 16 := by omega
    refine CW.skip (Thn_n ?_)
    refine CW.seq ?_
    refine CW.block ?_
    refine CW.seq ?_
    refine CW.region ?_
    refine WL.step rfl (Stp.res rfl rfl (Res.assign rfl rfl) ?_)
    refine WL.nil (Thn_n ?_)
    refine CW.block ?_
    refine CW.loop (σ := Nat) (fun k => [(0, .slice (some ⟨vb, vo, none⟩) l.length vc), (3, .pointer (some ⟨b3, 0, none⟩)), (5, .slice (some ⟨b8, 0, none⟩) 16 16), (6, .int .i64 (i : Int)), (7, .int .i64 (k : Int))])
      (fun k w' => k ≤ 4 ∧ St w0 w' M [(b8, .cells (bs ((Aes.upTo i (fun i => Aes.mixAcc l m i 4) (List.replicate 16 0)).set i (Aes.mixAcc l m i k))) 5 (0, 0)), (b3, .cells (bs m) 185 (0, 0))]) (fun k => 4 - k) 0 ⟨rfl, rfl, rfl, rfl, rfl, trivial⟩ ⟨by omega, by rw [Aes.mixAcc, Aes.upTo_set0]; exact hS⟩ ?_
    rintro k w2 ⟨hk, hS⟩
    refine CW.seq ?_
    refine CW.seq ?_
    refine CW.region ?_
    refine WL.step rfl (Stp.res rfl rfl (Res.move rfl rfl) ?_)
    refine WL.step rfl (Stp.res rfl rfl (Res.lss rfl rfl rfl) ?_)
    refine WL.nil (Thn_n ?_)
    refine CW.ite rfl (fun h2 => ?_) (fun h2 => ?_)
    · obtain hlk : k < 4 := by omega
      refine CW.skip (Thn_n ?_)
      refine CW.seq ?_
      refine CW.block ?_
      have hS := hS.drew
      have hK0 := hS
      refine CW.last (fun w' => St w0 w' M [(b8, .cells (bs ((Aes.upTo i (fun i => Aes.mixAcc l m i 4) (List.replicate 16 0)).set i (Aes.mixAcc l m i k))) 5 (0, 0)), (b3, .cells (bs m) 185 (0, 0))]) [23] mixed ?_
      refine ZL.take 0 rfl (by kernel_rfl) rfl rfl rfl hK0 (fun w hK => Res.move rfl rfl) ?_
      refine ZL.take 1 rfl (by kernel_rfl) rfl rfl rfl hK0 (fun w hK => Res.move rfl rfl) ?_
      refine ZL.take 2 rfl (by kernel_rfl) rfl rfl rfl hK0 (fun w hK => Res.move rfl rfl) ?_
      refine ZL.take 3 rfl (by kernel_rfl) rfl rfl rfl hK0 (fun w hK => Res.move rfl rfl) ?_
      refine ZL.take 4 rfl (by kernel_rfl) rfl rfl rfl hK0 (fun w hK => Res.idxS0 (k := i) rfl rfl rfl underlying30 sz5 (Int.toNat_natCast _) (by omega)) ?_
      refine ZL.take 5 rfl (by kernel_rfl) rfl rfl rfl hK0 (fun w hK => Res.load1 (v := byte (Aes.mixAcc l m i k)) rfl rfl underlying5 rfl (hK.ocell (i := 0) rfl (by rw [bs_get (by simp; omega), Aes.set_get _ _ _ (by simp; omega)]))) ?_
      refine ZL.take 6 rfl (by kernel_rfl) rfl rfl rfl hK0 (fun w hK => Res.move rfl rfl) ?_
      refine ZL.take 7 rfl (by kernel_rfl) rfl rfl rfl hK0 (fun w hK => Res.move rfl rfl) ?_
      refine ZL.take 8 rfl (by kernel_rfl) rfl rfl rfl hK0 (fun w hK => Res.quo rfl rfl rfl (by omega)) ?_
      refine ZL.take 9 rfl (by kernel_rfl) rfl rfl rfl hK0 (fun w hK => Res.mul rfl rfl rfl (by omega)) ?_
      refine ZL.take 10 rfl (by kernel_rfl) rfl rfl rfl hK0 (fun w hK => Res.move rfl rfl) ?_
      refine ZL.take 11 rfl (by kernel_rfl) rfl rfl rfl hK0 (fun w hK => Res.move rfl rfl) ?_
      refine ZL.take 12 rfl (by kernel_rfl) rfl rfl rfl hK0 (fun w hK => Res.add rfl rfl rfl (by omega)) ?_
      refine ZL.take 13 rfl (by kernel_rfl) rfl rfl rfl hK0 (fun w hK => Res.rem rfl rfl rfl (by omega)) ?_
      refine ZL.take 14 rfl (by kernel_rfl) rfl rfl rfl hK0 (fun w hK => Res.add rfl rfl rfl (by omega)) ?_
      refine ZL.take 15 rfl (by kernel_rfl) rfl rfl rfl hK0 (fun w hK => Res.idxS1 (k := i / 4 * 4 + (i + k) % 4) rfl rfl rfl underlying30 sz5 (by omega) (by omega)) ?_
      refine ZL.take 16 rfl (by kernel_rfl) rfl rfl rfl hK0 (fun w hK => Res.load1 rfl rfl underlying5 rfl (hK.cell (vcell _ (by omega)))) ?_
      refine ZL.take 17 rfl (by kernel_rfl) rfl rfl rfl hK0 (fun w hK => Res.move rfl rfl) ?_
      first | refine ZL.take 18 rfl (by kernel_rfl) rfl rfl rfl hK0 (fun w hK => Res.idxA0 rfl rfl rfl underlying185 sz5 (by first | exact Int.toNat_natCast _ | rfl) (by omega)) ?_ | refine ZL.take 18 rfl (by kernel_rfl) rfl rfl rfl hK0 (fun w hK => Res.idxA1 rfl rfl rfl underlying185 sz5 (by first | exact Int.toNat_natCast _ | rfl) (by omega)) ?_
      refine ZL.take 19 rfl (by kernel_rfl) rfl rfl rfl hK0 (fun w hK => Res.load1 rfl rfl underlying5 rfl (hK.ocell (i := 1) rfl (bs_get (by omega)))) ?_
      refine ZL.one 20 rfl (by kernel_rfl) rfl (Stp.callA (args := [_, _]) rfl rfl rfl cal161 rfl rfl (rtimes_ok _ _ _) ?_)
      skip
      refine ⟨hK0, ?_⟩
      refine ZL.take 21 rfl (by kernel_rfl) rfl rfl rfl hK0 (fun w hK => Res.xorB _ rfl rfl rfl) ?_
      refine ZL.take 22 rfl (by kernel_rfl) rfl rfl rfl hK0 (fun w hK => Res.idxS0 (k := i) rfl rfl rfl underlying30 sz5 (Int.toNat_natCast _) (by omega)) ?_
      refine ZL.end 23 (by decide) rfl (by kernel_rfl) rfl (Stp.storeB 0 rfl rfl rfl sz5 rfl hS rfl (by simp; omega) ?_)
      intro w hS hpt
      rw [List.set_set, Aes.mixAcc_step l m hlt hlk] at hS
      refine ZL.done (by kernel_rfl) (Blk_n (Thn_n ?_))
      refine CW.region ?_
      refine WL.step rfl (Stp.res rfl rfl (Res.move rfl rfl) ?_)
      refine WL.step rfl (Stp.res rfl rfl (Res.add rfl rfl rfl (by omega)) ?_)
      refine WL.step rfl (Stp.res rfl rfl (Res.assign rfl rfl) ?_)
      refine WL.nil (Thn_n ?_)
      exact ⟨k + 1, ⟨rfl, rfl, rfl, rfl, rfl, trivial⟩, ⟨by omega, hS⟩, by omega⟩
    · obtain rfl : k = 4 := by omega
      refine CW.exit (Thn_x (Thn_x (Blk_x (Blk_n (Thn_n ?_)))))
      refine CW.region ?_
      refine WL.step rfl (Stp.res rfl rfl (Res.move rfl rfl) ?_)
      refine WL.step rfl (Stp.res rfl rfl (Res.add rfl rfl rfl (by omega)) ?_)
      refine WL.step rfl (Stp.res rfl rfl (Res.assign rfl rfl) ?_)
      refine WL.nil (Thn_n ?_)
      refine ⟨i + 1, ⟨rfl, rfl, rfl, rfl, trivial⟩, ⟨by omega, ?_⟩, by omega⟩
      rw [← Aes.upTo_set]
      exact hS
  · obtain rfl : i = 16 := by omega
    refine CW.exit (Thn_x (Thn_x (Blk_x (Thn_n ?_))))
    refine CW.seq ?_
    refine CW.region ?_
    refine WL.step rfl (Stp.res rfl rfl (Res.move rfl rfl) ?_)
    refine WL.step rfl (Stp.res rfl rfl (Res.assign rfl rfl) ?_)
    refine WL.nil (Thn_n ?_)
    refine CW.ret ?_
    rw [Aes.upTo_all _ _ 16 (List.length_replicate ..)] at hS
    have hF := hS.freeze (i := 0) rfl hb8
    exact fq_tmp rfl rfl ⟨_, hF.1.drop (i := 0) rfl hb3, hF.2, Fresh.add _ hb8, Bs.of' (PH.add_self _ _ _) (Aes.mixB_length l m) (by omega)⟩
theorem rkeysBy_ok (tv kv : Value) (key : List UInt8) (w0 : World) (M : PH) (hM : On M w0) (ht : Bs M tv Aes.boxL) (hkey : Bs M kv key) (hk : key.length = 16) : Ok Tryz.prog 137 #[tv, kv] w0 M (fun M' r => M = M' ∧ r = .tuple #[.agg (bs (Aes.keysL key)), .int .i64 0]) := by
  have hS := hM.st
  obtain ⟨tb, to_, tc, rfl, tc1, tc2, tcell⟩ := ht.at (by rw [Aes.boxL_len]; omega)
  have hkey0 := hkey
  obtain ⟨ka, kc, rfl, k1, k2, k3, k4⟩ := hkey
  refine enterB (l := [.slice (some ⟨tb, to_, none⟩) Aes.boxL.length tc, .slice ka key.length kc]) 117 func137 rfl ntmps137 rfl ?_
  refine CW.seq ?_
  refine CW.region ?_
  refine WL.step rfl (Stp.alloc (cs := bs (List.replicate 176 0)) rfl z180 rfl rfl rfl hS ?_)
  intro b4 w hb4 hS hkp hnw
  refine WL.step rfl (Stp.res rfl rfl (Res.assign rfl rfl) ?_)
  refine WL.nil (Thn_n ?_)
  refine CW.seq ?_
  refine CW.region ?_
  refine WL.step rfl (Stp.res rfl rfl (Res.build (vals := []) (cs := bs (List.replicate 176 0)) rfl rfl (fun _ => by kernel_rfl)) ?_)
  refine WL.step rfl (Stp.alloc (cs := bs (List.replicate 176 0)) rfl z180 rfl rfl rfl hS ?_)
  intro b6 w hb6 hS hkp hnw
  refine WL.step rfl (Stp.storeAllB 0 rfl rfl rfl sz180 rfl hS rfl ⟨List.length_replicate .., List.length_replicate ..⟩ ?_)
  intro w hS hpt
  refine WL.nil (Thn_n ?_)
  refine CW.seq ?_
  refine CW.seq ?_
  refine CW.region ?_
  refine WL.step rfl (Stp.res rfl rfl (Res.move rfl rfl) ?_)
  refine WL.step rfl (Stp.res rfl rfl (Res.len rfl rfl rfl rfl underlying30) ?_)
  refine WL.step rfl (Stp.res rfl rfl (Res.neq rfl rfl rfl) ?_)
  refine WL.nil (Thn_n ?_)
  refine CW.iteF rfl (by omega) ?_
  refine CW.skip (Thn_n ?_)
  refine CW.seq ?_
  refine CW.region ?_
  refine WL.step rfl (Stp.lit (vals := []) (cs := bs []) (e := 5) rfl rfl (fun _ => by kernel_rfl) rfl rfl hS ?_)
  intro b18 w hb18 hS hkp hnw
  refine WL.step rfl (Stp.res rfl rfl (Res.move rfl rfl) ?_)
  refine WL.step rfl (Stp.appendB (l := []) (r := key) rfl rfl rfl rfl et30 (Src.ofBs underlying30 hS hkey0) hS (OwnB.of hb18 (Nat.le_refl 0) (by omega) [] rfl rfl) (by rw [hk]; decide) rfl rfl ?_)
  intro v' w g' hS hown
  rw [List.nil_append, ← Aes.kl_16 hk] at hown
  refine WL.step rfl (Stp.res rfl rfl (Res.assign rfl rfl) ?_)
  refine WL.nil (Thn_n ?_)
  refine CW.seq ?_
  refine CW.region ?_
  refine WL.step rfl (Stp.res rfl rfl (Res.assign (v := byte 1) rfl rfl) ?_)
  refine WL.nil (Thn_n ?_)
  refine CW.seq ?_
  refine CW.seq ?_
  refine CW.region ?_
  refine WL.step rfl (Stp.res rfl rfl (Res.assign rfl rfl) ?_)
  refine WL.nil (Thn_n ?_)
  refine CW.block ?_
  refine CW.loop (σ := Nat × Value × Owned) (fun s => [(0, .slice (some ⟨tb, to_, none⟩) Aes.boxL.length tc), (4, .pointer (some ⟨b4, 0, none⟩)), (5, .int .i64 0), (6, .pointer (some ⟨b6, 0, none⟩)), (7, s.2.1), (8, byte (Aes.pow ((s.1 - 1) / 4))), (9, .int .i64 (s.1 : Int))])
    (fun s w' => 4 ≤ s.1 ∧ s.1 ≤ 44 ∧ St w0 w' M (s.2.2 ++ [(b6, .cells (bs (List.replicate 176 0)) 180 (0, 0)), (b4, .cells (bs (List.replicate 176 0)) 180 (0, 0))]) ∧ OwnB w0.heap.size s.2.2 s.2.1 (Aes.kl key (4 * s.1)) 5) (fun s => 44 - s.1) (4, _, g') ⟨rfl, rfl, rfl, rfl, rfl, bytec (show (1 : UInt8) = Aes.pow ((4 - 1) / 4) by decide), rfl, trivial⟩ ⟨by dsimp only; omega, by dsimp only; omega, hS, hown⟩ ?_
  rintro ⟨i, v, g⟩ w1 ⟨hi4, hi, hS, hown⟩
  dsimp only at hi4 hi hS hown ⊢
  refine CW.seq ?_
  refine CW.seq ?_
  refine CW.region ?_
  refine WL.step rfl (Stp.res rfl rfl (Res.move rfl rfl) ?_)
  refine WL.step rfl (Stp.res rfl rfl (Res.lss rfl rfl rfl) ?_)
  refine WL.nil (Thn_n ?_)
  refine CW.ite rfl (fun h => ?_) (fun h => ?_)
  · have hlt : i < 44 := by omega
    refine CW.skip (Thn_n ?_)
    refine CW.seq ?_
    refine CW.block ?_
    refine CW.seq ?_
    have hown0 := hown
    obtain ⟨bw, cw, capw, hbw, rfl, rfl, hcw⟩ := hown.open (by rw [Aes.kl_len]; omega)
    have hS := hS.drew
    refine CW.tail 24 mixed (by kernel_rfl) ?_
    refine SL.step rfl rfl rfl (Res.move rfl rfl) ?_
    refine SL.step rfl rfl rfl (Res.move rfl rfl) ?_
    refine SL.step rfl rfl rfl (Res.mul rfl rfl rfl (by omega)) ?_
    refine SL.step rfl rfl rfl (Res.sub rfl rfl rfl (by omega)) ?_
    refine SL.step rfl rfl rfl (Res.idxS0 (k := 4 * i - 4) rfl rfl rfl underlying30 sz5 (by omega) (by rw [Aes.kl_len]; omega)) ?_
    refine SL.step rfl rfl rfl (Res.load1 (v := byte (Aes.kf key (4 * i - 4))) rfl rfl underlying5 rfl (hS.ocell (i := 0) rfl (by rw [hcw _ (by rw [Aes.kl_len]; omega), Aes.kl_at _ (by omega)]))) ?_
    refine SL.step rfl rfl rfl (Res.move rfl rfl) ?_
    refine SL.step rfl rfl rfl (Res.move rfl rfl) ?_
    refine SL.step rfl rfl rfl (Res.mul rfl rfl rfl (by omega)) ?_
    refine SL.step rfl rfl rfl (Res.sub rfl rfl rfl (by omega)) ?_
    refine SL.step rfl rfl rfl (Res.idxS0 (k := 4 * i - 3) rfl rfl rfl underlying30 sz5 (by omega) (by rw [Aes.kl_len]; omega)) ?_
    refine SL.step rfl rfl rfl (Res.load1 (v := byte (Aes.kf key (4 * i - 3))) rfl rfl underlying5 rfl (hS.ocell (i := 0) rfl (by rw [hcw _ (by rw [Aes.kl_len]; omega), Aes.kl_at _ (by omega)]))) ?_
    refine SL.step rfl rfl rfl (Res.move rfl rfl) ?_
    refine SL.step rfl rfl rfl (Res.move rfl rfl) ?_
    refine SL.step rfl rfl rfl (Res.mul rfl rfl rfl (by omega)) ?_
    refine SL.step rfl rfl rfl (Res.sub rfl rfl rfl (by omega)) ?_
    refine SL.step rfl rfl rfl (Res.idxS0 (k := 4 * i - 2) rfl rfl rfl underlying30 sz5 (by omega) (by rw [Aes.kl_len]; omega)) ?_
    refine SL.step rfl rfl rfl (Res.load1 (v := byte (Aes.kf key (4 * i - 2))) rfl rfl underlying5 rfl (hS.ocell (i := 0) rfl (by rw [hcw _ (by rw [Aes.kl_len]; omega), Aes.kl_at _ (by omega)]))) ?_
    refine SL.step rfl rfl rfl (Res.move rfl rfl) ?_
    refine SL.step rfl rfl rfl (Res.move rfl rfl) ?_
    refine SL.step rfl rfl rfl (Res.mul rfl rfl rfl (by omega)) ?_
    refine SL.step rfl rfl rfl (Res.sub rfl rfl rfl (by omega)) ?_
    refine SL.step rfl rfl rfl (Res.idxS0 (k := 4 * i - 1) rfl rfl rfl underlying30 sz5 (by omega) (by rw [Aes.kl_len]; omega)) ?_
    refine SL.step rfl rfl rfl (Res.load1 (v := byte (Aes.kf key (4 * i - 1))) rfl rfl underlying5 rfl (hS.ocell (i := 0) rfl (by rw [hcw _ (by rw [Aes.kl_len]; omega), Aes.kl_at _ (by omega)]))) ?_
    refine SL.nil ?_
    refine WL.step rfl (Stp.lit (vals := [(0, byte (Aes.kf key (4 * i - 4))), (1, byte (Aes.kf key (4 * i - 3))), (2, byte (Aes.kf key (4 * i - 2))), (3, byte (Aes.kf key (4 * i - 1)))]) (cs := bs [Aes.kf key (4 * i - 4), Aes.kf key (4 * i - 3), Aes.kf key (4 * i - 2), Aes.kf key (4 * i - 1)]) (e := 5) rfl rfl (fun _ => by kernel_rfl) rfl rfl hS ?_)
    intro bx w hbx hS hkp hnw
    have hF := hS.freeze (i := 0) rfl hbx
    obtain ⟨M1, hle1, hM1, hS⟩ : ∃ M1, PH.le M M1 ∧ (∀ j, j < 4 → PH.cell M1 bx j = some (byte (List.getD [Aes.kf key (4 * i - 4), Aes.kf key (4 * i - 3), Aes.kf key (4 * i - 2), Aes.kf key (4 * i - 1)] j 0))) ∧ St w0 w M1 ([(bw, .cells cw 5 (0, 0))] ++ [(b6, .cells (bs (List.replicate 176 0)) 180 (0, 0)), (b4, .cells (bs (List.replicate 176 0)) 180 (0, 0))]) := ⟨_, hF.2, fun j hj => PH.cell_of (PH.add_self _ _ _) (bs_get hj), hF.1⟩
    refine WL.step rfl (Stp.res rfl rfl (Res.assign rfl rfl) ?_)
    refine WL.nil (Thn_n ?_)
    refine CW.seq ?_
    refine CW.seq ?_
    refine CW.region ?_
    refine WL.step rfl (Stp.res rfl rfl (Res.move rfl rfl) ?_)
    refine WL.step rfl (Stp.res rfl rfl (Res.rem rfl rfl rfl (by omega)) ?_)
    refine WL.step rfl (Stp.res rfl rfl (Res.eql rfl rfl rfl) ?_)
    refine WL.nil (Thn_n ?_)
    refine CW.ite rfl (fun h2 => ?_) (fun h2 => ?_)
    · have h4 : i % 4 = 0 := by omega
      refine CW.seq ?_
      have hS := hS.drew
      refine CW.tail 26 mixed (by kernel_rfl) ?_
      refine SL.step rfl rfl rfl (Res.move rfl rfl) ?_
      refine SL.step rfl rfl rfl (Res.move rfl rfl) ?_
      refine SL.step rfl rfl rfl (Res.idxS0 (k := 1) rfl rfl rfl underlying30 sz5 rfl (by decide)) ?_
      refine SL.step rfl rfl rfl (Res.load1 (v := byte (Aes.kf key (4 * i - 3))) rfl rfl underlying5 rfl (hS.cell (hM1 1 (by decide)))) ?_
      refine SL.step rfl rfl rfl (Res.idxS1 (k := UInt8.toNat _) rfl rfl rfl underlying30 sz5 (Int.toNat_natCast _) ⟨Int.natCast_nonneg _, by rw [Aes.boxL_len]; exact Int.ofNat_lt.2 (UInt8.toNat_lt _)⟩) ?_
      refine SL.step rfl rfl rfl (Res.load1 (v := byte (Aes.sub (Aes.kf key (4 * i - 3)))) rfl rfl underlying5 rfl (hS.cell (PH.cell_mono hle1 (tcell _ (by rw [Aes.boxL_len]; exact UInt8.toNat_lt _))))) ?_
      refine SL.step rfl rfl rfl (Res.move rfl rfl) ?_
      refine SL.step rfl rfl rfl (Res.xorB _ rfl rfl rfl) ?_
      refine SL.step rfl rfl rfl (Res.move rfl rfl) ?_
      refine SL.step rfl rfl rfl (Res.move rfl rfl) ?_
      refine SL.step rfl rfl rfl (Res.idxS0 (k := 2) rfl rfl rfl underlying30 sz5 rfl (by decide)) ?_
      refine SL.step rfl rfl rfl (Res.load1 (v := byte (Aes.kf key (4 * i - 2))) rfl rfl underlying5 rfl (hS.cell (hM1 2 (by decide)))) ?_
      refine SL.step rfl rfl rfl (Res.idxS1 (k := UInt8.toNat _) rfl rfl rfl underlying30 sz5 (Int.toNat_natCast _) ⟨Int.natCast_nonneg _, by rw [Aes.boxL_len]; exact Int.ofNat_lt.2 (UInt8.toNat_lt _)⟩) ?_
      refine SL.step rfl rfl rfl (Res.load1 (v := byte (Aes.sub (Aes.kf key (4 * i - 2)))) rfl rfl underlying5 rfl (hS.cell (PH.cell_mono hle1 (tcell _ (by rw [Aes.boxL_len]; exact UInt8.toNat_lt _))))) ?_
      refine SL.step rfl rfl rfl (Res.move rfl rfl) ?_
      refine SL.step rfl rfl rfl (Res.move rfl rfl) ?_
      refine SL.step rfl rfl rfl (Res.idxS0 (k := 3) rfl rfl rfl underlying30 sz5 rfl (by decide)) ?_
      refine SL.step rfl rfl rfl (Res.load1 (v := byte (Aes.kf key (4 * i - 1))) rfl rfl underlying5 rfl (hS.cell (hM1 3 (by decide)))) ?_
      refine SL.step rfl rfl rfl (Res.idxS1 (k := UInt8.toNat _) rfl rfl rfl underlying30 sz5 (Int.toNat_natCast _) ⟨Int.natCast_nonneg _, by rw [Aes.boxL_len]; exact Int.ofNat_lt.2 (UInt8.toNat_lt _)⟩) ?_
      refine SL.step rfl rfl rfl (Res.load1 (v := byte (Aes.sub (Aes.kf key (4 * i - 1)))) rfl rfl underlying5 rfl (hS.cell (PH.cell_mono hle1 (tcell _ (by rw [Aes.boxL_len]; exact UInt8.toNat_lt _))))) ?_
      refine SL.step rfl rfl rfl (Res.move rfl rfl) ?_
      refine SL.step rfl rfl rfl (Res.move rfl rfl) ?_
      refine SL.step rfl rfl rfl (Res.idxS0 (k := 0) rfl rfl rfl underlying30 sz5 rfl (by decide)) ?_
      refine SL.step rfl rfl rfl (Res.load1 (v := byte (Aes.kf key (4 * i - 4))) rfl rfl underlying5 rfl (hS.cell (hM1 0 (by decide)))) ?_
      refine SL.step rfl rfl rfl (Res.idxS1 (k := UInt8.toNat _) rfl rfl rfl underlying30 sz5 (Int.toNat_natCast _) ⟨Int.natCast_nonneg _, by rw [Aes.boxL_len]; exact Int.ofNat_lt.2 (UInt8.toNat_lt _)⟩) ?_
      refine SL.step rfl rfl rfl (Res.load1 (v := byte (Aes.sub (Aes.kf key (4 * i - 4)))) rfl rfl underlying5 rfl (hS.cell (PH.cell_mono hle1 (tcell _ (by rw [Aes.boxL_len]; exact UInt8.toNat_lt _))))) ?_
      refine SL.nil ?_
      refine WL.step rfl (Stp.lit (vals := [(0, byte (Aes.sub (Aes.kf key (4 * i - 3)) ^^^ Aes.pow ((i - 1) / 4))), (1, byte (Aes.sub (Aes.kf key (4 * i - 2)))), (2, byte (Aes.sub (Aes.kf key (4 * i - 1)))), (3, byte (Aes.sub (Aes.kf key (4 * i - 4))))]) (cs := bs [Aes.sub (Aes.kf key (4 * i - 3)) ^^^ Aes.pow ((i - 1) / 4), Aes.sub (Aes.kf key (4 * i - 2)), Aes.sub (Aes.kf key (4 * i - 1)), Aes.sub (Aes.kf key (4 * i - 4))]) (e := 5) rfl rfl (fun _ => by kernel_rfl) rfl rfl hS ?_)
      intro bx w hbx hS hkp hnw
      have hF := hS.freeze (i := 0) rfl hbx
      obtain ⟨M2, hle2, hM2, hS⟩ : ∃ M2, PH.le M1 M2 ∧ (∀ j, j < 4 → PH.cell M2 bx j = some (byte (List.getD [Aes.sub (Aes.kf key (4 * i - 3)) ^^^ Aes.pow ((i - 1) / 4), Aes.sub (Aes.kf key (4 * i - 2)), Aes.sub (Aes.kf key (4 * i - 1)), Aes.sub (Aes.kf key (4 * i - 4))] j 0))) ∧ St w0 w M2 ([(bw, .cells cw 5 (0, 0))] ++ [(b6, .cells (bs (List.replicate 176 0)) 180 (0, 0)), (b4, .cells (bs (List.replicate 176 0)) 180 (0, 0))]) := ⟨_, hF.2, fun j hj => PH.cell_of (PH.add_self _ _ _) (bs_get hj), hF.1⟩
      refine WL.step rfl (Stp.res rfl rfl (Res.assign rfl rfl) ?_)
      refine WL.nil (Thn_n ?_)
      refine CW.region ?_
      refine WL.step rfl (Stp.res rfl rfl (Res.move rfl rfl) ?_)
      refine WL.step rfl (Stp.callA (args := [_, byte 2]) rfl rfl rfl cal161 rfl rfl (rtimes_ok _ _ _) ?_)
      refine WL.step rfl (Stp.res rfl rfl (Res.assign rfl rfl) ?_)
      refine WL.nil (Thn_n ?_)
      refine CW.seq ?_
      refine CW.region ?_
      refine WL.step rfl (Stp.res rfl rfl (Res.assign rfl rfl) ?_)
      refine WL.nil (Thn_n ?_)
      refine CW.block ?_
      obtain ⟨M3, hle3, hM3, hS⟩ : ∃ M3, M.le M3 ∧ (∀ j, j < 4 → PH.cell M3 bx j = some (byte ((Aes.word key i).getD j 0))) ∧ St w0 w M3 ([(bw, .cells cw 5 (0, 0))] ++ [(b6, .cells (bs (List.replicate 176 0)) 180 (0, 0)), (b4, .cells (bs (List.replicate 176 0)) 180 (0, 0))]) := ⟨_, hle1.trans hle2, fun j hj => by rw [hM2 j hj]; rw [Aes.word, if_pos h4, show i / 4 - 1 = (i - 1) / 4 by omega], hS⟩
      have hrc : Aes.times (Aes.pow ((i - 1) / 4)) 2 = Aes.pow (i / 4) := by rw [Aes.pow_step]; congr 1; omega
      refine CW.loop (σ := Nat × Value × Owned) (fun s => [(0, .slice (some ⟨tb, to_, none⟩) Aes.boxL.length tc), (4, .pointer (some ⟨b4, 0, none⟩)), (5, .int .i64 0), (6, .pointer (some ⟨b6, 0, none⟩)), (7, s.2.1), (8, byte (Aes.pow (i / 4))), (9, .int .i64 (i : Int)), (10, .slice (some ⟨bx, 0, none⟩) 4 4), (11, .int .i64 (s.1 : Int))])
        (fun s w' => s.1 ≤ 4 ∧ St w0 w' M3 (s.2.2 ++ [(b6, .cells (bs (List.replicate 176 0)) 180 (0, 0)), (b4, .cells (bs (List.replicate 176 0)) 180 (0, 0))]) ∧ OwnB w0.heap.size s.2.2 s.2.1 (Aes.kl key (4 * i + s.1)) 5) (fun s => 4 - s.1) (0, _, _) ⟨rfl, rfl, rfl, rfl, rfl, bytec hrc, rfl, rfl, rfl, trivial⟩ ⟨by dsimp only; omega, hS, hown0⟩ ?_
      rintro ⟨j, v, g⟩ w2 ⟨hj, hS, hown⟩
      dsimp only at hj hS hown ⊢
      refine CW.seq ?_
      refine CW.seq ?_
      refine CW.region ?_
      refine WL.step rfl (Stp.res rfl rfl (Res.move rfl rfl) ?_)
      refine WL.step rfl (Stp.res rfl rfl (Res.lss rfl rfl rfl) ?_)
      refine WL.nil (Thn_n ?_)
      refine CW.ite rfl (fun h5 => ?_) (fun h5 => ?_)
      · have hlj : j < 4 := by omega
        refine CW.skip (Thn_n ?_)
        refine CW.seq ?_
        refine CW.block ?_
        have hown0 := hown
        obtain ⟨bw, cw, capw, hbw, rfl, rfl, hcw⟩ := hown.open (by rw [Aes.kl_len]; omega)
        have hS := hS.drew
        have hK0 : (fun w' => w'.cell? ⟨bw, 4 * i - 16 + j, none⟩ = some (byte (Aes.kf key (4 * i - 16 + j))) ∧ w'.cell? ⟨bx, j, none⟩ = some (byte ((Aes.word key i).getD j 0))) w2.drew := And.intro (hS.ocell (i := 0) rfl (by rw [hcw _ (by rw [Aes.kl_len]; omega), Aes.kl_at _ (by omega)])) (hS.cell (hM3 j hlj))
        refine CW.last (fun w' => w'.cell? ⟨bw, 4 * i - 16 + j, none⟩ = some (byte (Aes.kf key (4 * i - 16 + j))) ∧ w'.cell? ⟨bx, j, none⟩ = some (byte ((Aes.word key i).getD j 0))) [15, 16] mixed ?_
        refine ZL.take 0 rfl (by kernel_rfl) rfl rfl rfl hK0 (fun w hK => Res.move rfl rfl) ?_
        refine ZL.take 1 rfl (by kernel_rfl) rfl rfl rfl hK0 (fun w hK => Res.move rfl rfl) ?_
        refine ZL.take 2 rfl (by kernel_rfl) rfl rfl rfl hK0 (fun w hK => Res.move rfl rfl) ?_
        refine ZL.take 3 rfl (by kernel_rfl) rfl rfl rfl hK0 (fun w hK => Res.mul rfl rfl rfl (by omega)) ?_
        refine ZL.take 4 rfl (by kernel_rfl) rfl rfl rfl hK0 (fun w hK => Res.sub rfl rfl rfl (by omega)) ?_
        refine ZL.take 5 rfl (by kernel_rfl) rfl rfl rfl hK0 (fun w hK => Res.move rfl rfl) ?_
        refine ZL.take 6 rfl (by kernel_rfl) rfl rfl rfl hK0 (fun w hK => Res.add rfl rfl rfl (by omega)) ?_
        refine ZL.take 7 rfl (by kernel_rfl) rfl rfl rfl hK0 (fun w hK => Res.idxS0 (k := 4 * i - 16 + j) rfl rfl rfl underlying30 sz5 (by omega) (by rw [Aes.kl_len]; omega)) ?_
        refine ZL.take 8 rfl (by kernel_rfl) rfl rfl rfl hK0 (fun w hK => Res.load1 rfl rfl underlying5 rfl hK.1) ?_
        refine ZL.take 9 rfl (by kernel_rfl) rfl rfl rfl hK0 (fun w hK => Res.move rfl rfl) ?_
        refine ZL.take 10 rfl (by kernel_rfl) rfl rfl rfl hK0 (fun w hK => Res.move rfl rfl) ?_
        refine ZL.take 11 rfl (by kernel_rfl) rfl rfl rfl hK0 (fun w hK => Res.idxS0 (k := j) rfl rfl rfl underlying30 sz5 (Int.toNat_natCast _) (by omega)) ?_
        refine ZL.take 12 rfl (by kernel_rfl) rfl rfl rfl hK0 (fun w hK => Res.load1 rfl rfl underlying5 rfl hK.2) ?_
        refine ZL.take 13 rfl (by kernel_rfl) rfl rfl rfl hK0 (fun w hK => Res.xorB _ rfl rfl rfl) ?_
        refine ZL.one 14 rfl (by kernel_rfl) rfl (Stp.lit (vals := [(0, byte (Aes.kf key (4 * i - 16 + j) ^^^ (Aes.word key i).getD j 0))]) (cs := bs [Aes.kf key (4 * i - 16 + j) ^^^ (Aes.word key i).getD j 0]) (e := 5) rfl rfl (fun _ => by kernel_rfl) rfl rfl hS ?_)
        intro b100 w hb100 hS hkp hnw
        have hF := hS.freeze (i := 0) rfl hb100
        have hS := hF.1
        change St w0 w _ ([(bw, .cells cw 5 (0, 0))] ++ [(b6, .cells (bs (List.replicate 176 0)) 180 (0, 0)), (b4, .cells (bs (List.replicate 176 0)) 180 (0, 0))]) at hS
        have hK0 : (fun w' => w'.cell? ⟨bw, 4 * i - 16 + j, none⟩ = some (byte (Aes.kf key (4 * i - 16 + j))) ∧ w'.cell? ⟨bx, j, none⟩ = some (byte ((Aes.word key i).getD j 0))) w := And.intro (hS.ocell (i := 0) rfl (by rw [hcw _ (by rw [Aes.kl_len]; omega), Aes.kl_at _ (by omega)])) (hS.cell (PH.cell_mono hF.2 (hM3 j hlj)))
        refine ⟨hK0, ?_⟩
        refine ZL.end 15 (by decide) rfl (by kernel_rfl) rfl (Stp.appendB (l := Aes.kl key (4 * i + j)) (r := [Aes.kf key (4 * i - 16 + j) ^^^ (Aes.word key i).getD j 0]) rfl rfl rfl rfl et30 (Src.ofBs underlying30 hS (Bs.of' (PH.add_self _ _ _) rfl (by omega))) hS hown0 (by rw [Aes.kl_len]; show 4 * i + j + 1 ≤ _; omega) rfl rfl ?_)
        intro v' w g' hS hown
        rw [Aes.kf_step key (by omega) hlj, Aes.kl_succ] at hown
        have hS := hS.known hF.2
        refine ZL.end 16 (by decide) rfl (by kernel_rfl) rfl (Stp.res rfl rfl (Res.assign rfl rfl) ?_)
        refine ZL.done (by kernel_rfl) (Blk_n (Thn_n ?_))
        refine CW.region ?_
        refine WL.step rfl (Stp.res rfl rfl (Res.move rfl rfl) ?_)
        refine WL.step rfl (Stp.res rfl rfl (Res.add rfl rfl rfl (by omega)) ?_)
        refine WL.step rfl (Stp.res rfl rfl (Res.assign rfl rfl) ?_)
        refine WL.nil (Thn_n ?_)
        exact ⟨(j + 1, _, _), ⟨rfl, rfl, rfl, rfl, rfl, rfl, rfl, rfl, rfl, trivial⟩, ⟨by dsimp only; omega, hS, hown⟩, by dsimp only; omega⟩
      · obtain rfl : j = 4 := by omega
        refine CW.exit (Thn_x (Thn_x (Blk_x (Blk_n (Thn_n ?_)))))
        refine CW.region ?_
        refine WL.step rfl (Stp.res rfl rfl (Res.move rfl rfl) ?_)
        refine WL.step rfl (Stp.res rfl rfl (Res.add rfl rfl rfl (by omega)) ?_)
        refine WL.step rfl (Stp.res rfl rfl (Res.assign rfl rfl) ?_)
        refine WL.nil (Thn_n ?_)
        rw [show 4 * i + 4 = 4 * (i + 1) by omega] at hown
        exact ⟨(i + 1, _, _), ⟨rfl, rfl, rfl, rfl, rfl, bytec (by rw [show i + 1 - 1 = i by omega]), rfl, trivial⟩, ⟨by dsimp only; omega, by dsimp only; omega, hS.known hle3, hown⟩, by dsimp only; omega⟩
    · have h4 : ¬ i % 4 = 0 := by omega
      refine CW.skip (Thn_n ?_)
      refine CW.seq ?_
      refine CW.region ?_
      refine WL.step rfl (Stp.res rfl rfl (Res.assign rfl rfl) ?_)
      refine WL.nil (Thn_n ?_)
      refine CW.block ?_
      obtain ⟨M3, hle3, hM3, hS⟩ : ∃ M3, M.le M3 ∧ (∀ j, j < 4 → PH.cell M3 bx j = some (byte ((Aes.word key i).getD j 0))) ∧ St w0 w M3 ([(bw, .cells cw 5 (0, 0))] ++ [(b6, .cells (bs (List.replicate 176 0)) 180 (0, 0)), (b4, .cells (bs (List.replicate 176 0)) 180 (0, 0))]) := ⟨_, hle1, fun j hj => by rw [hM1 j hj]; rw [Aes.word, if_neg h4], hS⟩
      have hrc : Aes.pow ((i - 1) / 4) = Aes.pow (i / 4) := by congr 1; omega
      refine CW.loop (σ := Nat × Value × Owned) (fun s => [(0, .slice (some ⟨tb, to_, none⟩) Aes.boxL.length tc), (4, .pointer (some ⟨b4, 0, none⟩)), (5, .int .i64 0), (6, .pointer (some ⟨b6, 0, none⟩)), (7, s.2.1), (8, byte (Aes.pow (i / 4))), (9, .int .i64 (i : Int)), (10, .slice (some ⟨bx, 0, none⟩) 4 4), (11, .int .i64 (s.1 : Int))])
        (fun s w' => s.1 ≤ 4 ∧ St w0 w' M3 (s.2.2 ++ [(b6, .cells (bs (List.replicate 176 0)) 180 (0, 0)), (b4, .cells (bs (List.replicate 176 0)) 180 (0, 0))]) ∧ OwnB w0.heap.size s.2.2 s.2.1 (Aes.kl key (4 * i + s.1)) 5) (fun s => 4 - s.1) (0, _, _) ⟨rfl, rfl, rfl, rfl, rfl, bytec hrc, rfl, rfl, rfl, trivial⟩ ⟨by dsimp only; omega, hS, hown0⟩ ?_
      rintro ⟨j, v, g⟩ w2 ⟨hj, hS, hown⟩
      dsimp only at hj hS hown ⊢
      refine CW.seq ?_
      refine CW.seq ?_
      refine CW.region ?_
      refine WL.step rfl (Stp.res rfl rfl (Res.move rfl rfl) ?_)
      refine WL.step rfl (Stp.res rfl rfl (Res.lss rfl rfl rfl) ?_)
      refine WL.nil (Thn_n ?_)
      refine CW.ite rfl (fun h5 => ?_) (fun h5 => ?_)
      · have hlj : j < 4 := by omega
        refine CW.skip (Thn_n ?_)
        refine CW.seq ?_
        refine CW.block ?_
        have hown0 := hown
        obtain ⟨bw, cw, capw, hbw, rfl, rfl, hcw⟩ := hown.open (by rw [Aes.kl_len]; omega)
        have hS := hS.drew
        have hK0 : (fun w' => w'.cell? ⟨bw, 4 * i - 16 + j, none⟩ = some (byte (Aes.kf key (4 * i - 16 + j))) ∧ w'.cell? ⟨bx, j, none⟩ = some (byte ((Aes.word key i).getD j 0))) w2.drew := And.intro (hS.ocell (i := 0) rfl (by rw [hcw _ (by rw [Aes.kl_len]; omega), Aes.kl_at _ (by omega)])) (hS.cell (hM3 j hlj))
        refine CW.last (fun w' => w'.cell? ⟨bw, 4 * i - 16 + j, none⟩ = some (byte (Aes.kf key (4 * i - 16 + j))) ∧ w'.cell? ⟨bx, j, none⟩ = some (byte ((Aes.word key i).getD j 0))) [15, 16] mixed ?_
        refine ZL.take 0 rfl (by kernel_rfl) rfl rfl rfl hK0 (fun w hK => Res.move rfl rfl) ?_
        refine ZL.take 1 rfl (by kernel_rfl) rfl rfl rfl hK0 (fun w hK => Res.move rfl rfl) ?_
        refine ZL.take 2 rfl (by kernel_rfl) rfl rfl rfl hK0 (fun w hK => Res.move rfl rfl) ?_
        refine ZL.take 3 rfl (by kernel_rfl) rfl rfl rfl hK0 (fun w hK => Res.mul rfl rfl rfl (by omega)) ?_
        refine ZL.take 4 rfl (by kernel_rfl) rfl rfl rfl hK0 (fun w hK => Res.sub rfl rfl rfl (by omega)) ?_
        refine ZL.take 5 rfl (by kernel_rfl) rfl rfl rfl hK0 (fun w hK => Res.move rfl rfl) ?_
        refine ZL.take 6 rfl (by kernel_rfl) rfl rfl rfl hK0 (fun w hK => Res.add rfl rfl rfl (by omega)) ?_
        refine ZL.take 7 rfl (by kernel_rfl) rfl rfl rfl hK0 (fun w hK => Res.idxS0 (k := 4 * i - 16 + j) rfl rfl rfl underlying30 sz5 (by omega) (by rw [Aes.kl_len]; omega)) ?_
        refine ZL.take 8 rfl (by kernel_rfl) rfl rfl rfl hK0 (fun w hK => Res.load1 rfl rfl underlying5 rfl hK.1) ?_
        refine ZL.take 9 rfl (by kernel_rfl) rfl rfl rfl hK0 (fun w hK => Res.move rfl rfl) ?_
        refine ZL.take 10 rfl (by kernel_rfl) rfl rfl rfl hK0 (fun w hK => Res.move rfl rfl) ?_
        refine ZL.take 11 rfl (by kernel_rfl) rfl rfl rfl hK0 (fun w hK => Res.idxS0 (k := j) rfl rfl rfl underlying30 sz5 (Int.toNat_natCast _) (by omega)) ?_
        refine ZL.take 12 rfl (by kernel_rfl) rfl rfl rfl hK0 (fun w hK => Res.load1 rfl rfl underlying5 rfl hK.2) ?_
        refine ZL.take 13 rfl (by kernel_rfl) rfl rfl rfl hK0 (fun w hK => Res.xorB _ rfl rfl rfl) ?_
        refine ZL.one 14 rfl (by kernel_rfl) rfl (Stp.lit (vals := [(0, byte (Aes.kf key (4 * i - 16 + j) ^^^ (Aes.word key i).getD j 0))]) (cs := bs [Aes.kf key (4 * i - 16 + j) ^^^ (Aes.word key i).getD j 0]) (e := 5) rfl rfl (fun _ => by kernel_rfl) rfl rfl hS ?_)
        intro b100 w hb100 hS hkp hnw
        have hF := hS.freeze (i := 0) rfl hb100
        have hS := hF.1
        change St w0 w _ ([(bw, .cells cw 5 (0, 0))] ++ [(b6, .cells (bs (List.replicate 176 0)) 180 (0, 0)), (b4, .cells (bs (List.replicate 176 0)) 180 (0, 0))]) at hS
        have hK0 : (fun w' => w'.cell? ⟨bw, 4 * i - 16 + j, none⟩ = some (byte (Aes.kf key (4 * i - 16 + j))) ∧ w'.cell? ⟨bx, j, none⟩ = some (byte ((Aes.word key i).getD j 0))) w := And.intro (hS.ocell (i := 0) rfl (by rw [hcw _ (by rw [Aes.kl_len]; omega), Aes.kl_at _ (by omega)])) (hS.cell (PH.cell_mono hF.2 (hM3 j hlj)))
        refine ⟨hK0, ?_⟩
        refine ZL.end 15 (by decide) rfl (by kernel_rfl) rfl (Stp.appendB (l := Aes.kl key (4 * i + j)) (r := [Aes.kf key (4 * i - 16 + j) ^^^ (Aes.word key i).getD j 0]) rfl rfl rfl rfl et30 (Src.ofBs underlying30 hS (Bs.of' (PH.add_self _ _ _) rfl (by omega))) hS hown0 (by rw [Aes.kl_len]; show 4 * i + j + 1 ≤ _; omega) rfl rfl ?_)
        intro v' w g' hS hown
        rw [Aes.kf_step key (by omega) hlj, Aes.kl_succ] at hown
        have hS := hS.known hF.2
        refine ZL.end 16 (by decide) rfl (by kernel_rfl) rfl (Stp.res rfl rfl (Res.assign rfl rfl) ?_)
        refine ZL.done (by kernel_rfl) (Blk_n (Thn_n ?_))
        refine CW.region ?_
        refine WL.step rfl (Stp.res rfl rfl (Res.move rfl rfl) ?_)
        refine WL.step rfl (Stp.res rfl rfl (Res.add rfl rfl rfl (by omega)) ?_)
        refine WL.step rfl (Stp.res rfl rfl (Res.assign rfl rfl) ?_)
        refine WL.nil (Thn_n ?_)
        exact ⟨(j + 1, _, _), ⟨rfl, rfl, rfl, rfl, rfl, rfl, rfl, rfl, rfl, trivial⟩, ⟨by dsimp only; omega, hS, hown⟩, by dsimp only; omega⟩
      · obtain rfl : j = 4 := by omega
        refine CW.exit (Thn_x (Thn_x (Blk_x (Blk_n (Thn_n ?_)))))
        refine CW.region ?_
        refine WL.step rfl (Stp.res rfl rfl (Res.move rfl rfl) ?_)
        refine WL.step rfl (Stp.res rfl rfl (Res.add rfl rfl rfl (by omega)) ?_)
        refine WL.step rfl (Stp.res rfl rfl (Res.assign rfl rfl) ?_)
        refine WL.nil (Thn_n ?_)
        rw [show 4 * i + 4 = 4 * (i + 1) by omega] at hown
        exact ⟨(i + 1, _, _), ⟨rfl, rfl, rfl, rfl, rfl, bytec (by rw [show i + 1 - 1 = i by omega]), rfl, trivial⟩, ⟨by dsimp only; omega, by dsimp only; omega, hS.known hle3, hown⟩, by dsimp only; omega⟩
  · obtain rfl : i = 44 := by omega
    have hown0 := hown
    obtain ⟨bw, cw, capw, hbw, rfl, rfl, hcw⟩ := hown.open (by rw [Aes.kl_len]; omega)
    refine CW.exit (Thn_x (Thn_x (Blk_x (Thn_n ?_))))
    refine CW.seq ?_
    refine CW.seq ?_
    refine CW.region ?_
    refine WL.step rfl (Stp.res rfl rfl (Res.assign rfl rfl) ?_)
    refine WL.nil (Thn_n ?_)
    refine CW.block ?_
    change St w0 w1 M [(bw, .cells cw 5 (0, 0)), (b6, .cells (bs (List.replicate 176 0)) 180 (0, 0)), (b4, .cells (bs (List.replicate 176 0)) 180 (0, 0))] at hS
    refine CW.loop (σ := Nat) (fun n => [(4, .pointer (some ⟨b4, 0, none⟩)), (5, .int .i64 0), (6, .pointer (some ⟨b6, 0, none⟩)), (7, .slice (some ⟨bw, 0, none⟩) (Aes.kl key (4 * 44)).length capw), (12, .int .i64 (n : Int))])
      (fun n w' => n ≤ 176 ∧ St w0 w' M [(bw, .cells cw 5 (0, 0)), (b6, .cells (bs (Aes.upTo n (Aes.kf key) (List.replicate 176 0))) 180 (0, 0)), (b4, .cells (bs (List.replicate 176 0)) 180 (0, 0))]) (fun n => 176 - n) 0 ⟨rfl, rfl, rfl, rfl, rfl, trivial⟩ ⟨by omega, by rw [Aes.upTo_zero]; exact hS⟩ ?_
    rintro n w4 ⟨hn, hS⟩
    refine CW.seq ?_
    refine CW.seq ?_
    refine CW.region ?_
    refine WL.step rfl (Stp.res rfl rfl (Res.move rfl rfl) ?_)
    refine WL.step rfl (Stp.res rfl rfl (Res.lss rfl rfl rfl) ?_)
    refine WL.nil (Thn_n ?_)
    refine CW.ite rfl (fun h => ?_) (fun h => ?_)
    · have hlt : n < 176 := by omega
      refine CW.skip (Thn_n ?_)
      refine CW.seq ?_
      refine CW.block ?_
      have hS := hS.drew
      refine CW.tail 10 mixed (by kernel_rfl) ?_
      refine SL.step rfl rfl rfl (Res.move rfl rfl) ?_
      refine SL.step rfl rfl rfl (Res.quo rfl rfl rfl (by omega)) ?_
      refine SL.step rfl rfl rfl (Res.move rfl rfl) ?_
      refine SL.step rfl rfl rfl (Res.rem rfl rfl rfl (by omega)) ?_
      refine SL.step rfl rfl rfl (Res.move rfl rfl) ?_
      refine SL.step rfl rfl rfl (Res.move rfl rfl) ?_
      refine SL.step rfl rfl rfl (Res.idxS0 (k := n) rfl rfl rfl underlying30 sz5 (Int.toNat_natCast _) (by rw [Aes.kl_len]; omega)) ?_
      refine SL.step rfl rfl rfl (Res.load1 (v := byte (Aes.kf key n)) rfl rfl underlying5 rfl (hS.ocell (i := 0) rfl (by rw [hcw _ (by rw [Aes.kl_len]; omega), Aes.kl_at _ (by omega)]))) ?_
      refine SL.step rfl rfl rfl (Res.idxAN (k := n / 16) rfl rfl rfl underlying180 sz78 (by omega) (by omega)) ?_
      refine SL.step rfl rfl rfl (Res.idxA1 (k := n % 16) rfl rfl rfl underlying78 sz5 (by omega) (by omega)) ?_
      refine SL.nil ?_
      refine WL.step rfl (Stp.storeB 1 rfl rfl rfl sz5 rfl hS rfl (by rw [Aes.upTo_length, List.length_replicate]; omega) ?_)
      intro w hS hpt
      rw [show n / 16 * 16 + n % 16 = n by omega, Aes.upTo_set] at hS
      refine WL.nil (Blk_n (Thn_n ?_))
      refine CW.region ?_
      refine WL.step rfl (Stp.res rfl rfl (Res.move rfl rfl) ?_)
      refine WL.step rfl (Stp.res rfl rfl (Res.add rfl rfl rfl (by omega)) ?_)
      refine WL.step rfl (Stp.res rfl rfl (Res.assign rfl rfl) ?_)
      refine WL.nil (Thn_n ?_)
      exact ⟨n + 1, ⟨rfl, rfl, rfl, rfl, rfl, trivial⟩, ⟨by omega, hS⟩, by omega⟩
    · obtain rfl : n = 176 := by omega
      refine CW.exit (Thn_x (Thn_x (Blk_x (Thn_n ?_))))
      refine CW.seq ?_
      refine CW.region ?_
      refine WL.step rfl (Stp.res rfl rfl (Res.loadAll rfl rfl underlying180 rfl (by rw [size_bs, Aes.upTo_length, List.length_replicate]; exact sz180) (hS.get (i := 1) rfl)) ?_)
      refine WL.step rfl (Stp.storeAllB 2 rfl rfl rfl sz180 rfl hS rfl ⟨List.length_replicate .., by rw [Aes.upTo_length, List.length_replicate]⟩ ?_)
      intro w hS hpt
      refine WL.step rfl (Stp.res rfl rfl (Res.assign rfl rfl) ?_)
      refine WL.nil (Thn_n ?_)
      refine CW.ret ?_
      refine fq_cell_tmp rfl rfl rfl (hS.get (i := 2) rfl) underlying180 rfl (by rw [size_bs, Aes.upTo_length, List.length_replicate]; exact sz180) ⟨M, ((hS.drop (i := 0) rfl hbw).drop (i := 0) rfl hb6).drop (i := 0) rfl hb4, PH.le.refl _, Fresh.refl _ _, rfl, ?_⟩
      rw [Aes.upTo_all _ _ 176 (List.length_replicate ..)]
      rfl
end Go.Proofs.YtcmgimicdcchlaaGreatDoor
set_option linter.unusedVariables false
set_option maxRecDepth 20000
namespace Go.Proofs.YtcmgimicdcchlaaGreatDoor
open Go.Proofs.Tryz
open Go Go.E
theorem rencrypt_ok (kv bv : Value) (key blk : List UInt8) (w0 : World) (M : PH) (hM : On M w0) (hkey : Bs M kv key) (hblk : Bs M bv blk) (hk : key.length = 16) (hb16 : blk.length = 16) : Ok Tryz.prog 125 #[kv, bv] w0 M (fun M' r => ∃ s, r = .tuple #[s, .int .i64 0] ∧ Bs M' s (Aes.enc key blk)) := by
  have hS := hM.st
  have hblk0 := hblk
  obtain ⟨ba, bc, rfl, b1, b2, b3, b4⟩ := hblk
  refine enterB (l := [kv, .slice ba blk.length bc]) 66 func125 rfl ntmps125 rfl ?_
  refine CW.seq ?_
  refine CW.region ?_
  refine WL.step rfl (Stp.res rfl rfl (Res.assign rfl rfl) ?_)
  refine WL.step rfl (Stp.res rfl rfl (Res.assign rfl rfl) ?_)
  refine WL.nil (Thn_n ?_)
  refine CW.seq ?_
  refine CW.region ?_
  refine WL.step rfl (Stp.callG (args := []) rfl rfl rfl cal136 rfl rfl hS (rtable_ok _ _ hS.on) ?_)
  rintro _ w M1 hS hG1 ht
  refine WL.step rfl (Stp.res rfl rfl (Res.assign rfl rfl) ?_)
  refine WL.nil (Thn_n ?_)
  refine CW.seq ?_
  refine CW.region ?_
  refine WL.step rfl (Stp.res rfl rfl (Res.move rfl rfl) ?_)
  refine WL.step rfl (Stp.res rfl rfl (Res.move rfl rfl) ?_)
  refine WL.step rfl (Stp.callG (args := [_, _]) rfl rfl rfl cal137 rfl rfl hS (rkeysBy_ok _ _ key _ _ hS.on ht (hkey.mono hG1.1) hk) ?_)
  rintro _ w _ hS _ ⟨rfl, rfl⟩
  refine WL.step rfl (Stp.res rfl rfl (Res.move rfl rfl) ?_)
  refine WL.step rfl (Stp.res rfl rfl (Res.extract (l := [_, _]) rfl rfl rfl) ?_)
  refine WL.step rfl (Stp.res rfl rfl (Res.extract (l := [_, _]) rfl rfl rfl) ?_)
  refine WL.step rfl (Stp.alloc (cs := bs (List.replicate 176 0)) rfl z180 rfl rfl rfl hS ?_)
  intro b7 w hb7 hS hkp hnw
  refine WL.step rfl (Stp.storeAllB 0 rfl rfl rfl sz180 rfl hS rfl ⟨List.length_replicate .., Aes.keysL_length _⟩ ?_)
  intro w hS hpt
  refine WL.step rfl (Stp.res rfl rfl (Res.assign rfl rfl) ?_)
  refine WL.nil (Thn_n ?_)
  refine CW.seq ?_
  refine CW.seq ?_
  refine CW.region ?_
  refine WL.step rfl (Stp.res rfl rfl (Res.move rfl rfl) ?_)
  refine WL.step rfl (Stp.res rfl rfl (Res.neq rfl rfl rfl) ?_)
  refine WL.step rfl (Stp.res rfl rfl (Res.move rfl rfl) ?_)
  refine WL.stepG 2 false rfl rfl rfl rfl (Stp.res rfl rfl (Res.move rfl rfl) ?_)
  refine WL.stepG 2 false rfl rfl rfl rfl (Stp.res rfl rfl (Res.len rfl rfl rfl rfl underlying30) ?_)
  refine WL.stepG 2 false rfl rfl rfl rfl (Stp.res rfl rfl (Res.neq rfl rfl rfl) ?_)
  refine WL.step rfl (Stp.res rfl rfl (Res.pickF rfl rfl rfl) ?_)
  refine WL.nil (Thn_n ?_)
  refine CW.iteF rfl (by omega) ?_
  refine CW.skip (Thn_n ?_)
  refine CW.seq ?_
  obtain ⟨tb, to_, tc, rfl, tc1, tc2, tcell⟩ := ht.at (by rw [Aes.boxL_len]; omega)
  refine CW.region ?_
  refine WL.step rfl (Stp.res rfl rfl (Res.move rfl rfl) ?_)
  refine WL.step rfl (Stp.res rfl rfl (Res.idxAN (k := 0) rfl rfl rfl underlying180 sz78 rfl (by omega)) ?_)
  refine WL.step rfl (Stp.res rfl rfl (Res.loadNB (l := Aes.rk key (0)) rfl rfl underlying78 rfl sz78 (Aes.rk_length hk _) (fun j hj => hS.ocell (i := 0) rfl (by rw [bs_get (by rw [Aes.keysL_length]; omega), Aes.keysL_at key _ j (by omega) hj]))) ?_)
  refine WL.step rfl (Stp.callG (args := [_, _]) rfl rfl rfl cal138 rfl rfl hS (rxor_ok _ blk (Aes.rk key 0) _ _ hS.on (hblk0.mono hG1.1) hb16 (Aes.rk_length hk _)) ?_)
  rintro _ w M2 hS hG2 hs2
  refine WL.step rfl (Stp.res rfl rfl (Res.assign rfl rfl) ?_)
  refine WL.nil (Thn_n ?_)
  refine CW.seq ?_
  refine CW.seq ?_
  refine CW.region ?_
  refine WL.step rfl (Stp.res rfl rfl (Res.assign rfl rfl) ?_)
  refine WL.nil (Thn_n ?_)
  refine CW.block ?_
  refine CW.loop (σ := Nat × Value × PH) (fun s => [(6, .slice (some ⟨tb, to_, none⟩) Aes.boxL.length tc), (7, .pointer (some ⟨b7, 0, none⟩)), (9, s.2.1), (10, .int .i64 ((s.1 : Int) + 1))])
    (fun s w' => s.1 ≤ 10 ∧ M1.le s.2.2 ∧ Grow w0.heap.size M s.2.2 ∧ St w0 w' s.2.2 [(b7, .cells (bs (Aes.keysL key)) 180 (0, 0))] ∧ Bs s.2.2 s.2.1 (Aes.encAt key blk s.1)) (fun s => 11 - s.1) (0, _, M2) ⟨rfl, rfl, rfl, rfl, trivial⟩ ⟨by dsimp only; omega, hG2.1, hG1.trans hG2, hS, hs2⟩ ?_
  rintro ⟨r, v, Mr⟩ w1 ⟨hr, hle1, hGr, hS, hv⟩
  dsimp only at hr hle1 hGr hS hv ⊢
  refine CW.seq ?_
  refine CW.seq ?_
  refine CW.region ?_
  refine WL.step rfl (Stp.res rfl rfl (Res.move rfl rfl) ?_)
  refine WL.step rfl (Stp.res rfl rfl (Res.leq rfl rfl rfl) ?_)
  refine WL.nil (Thn_n ?_)
  refine CW.ite rfl (fun h => ?_) (fun h => ?_)
  · have hlt : r ≤ 9 := by omega
    obtain ⟨vb, vo, vc, rfl, vc1, vc2, vcell⟩ := hv.at (by rw [Aes.encAt_length]; omega)
    refine CW.skip (Thn_n ?_)
    refine CW.seq ?_
    refine CW.block ?_
    refine CW.seq ?_
    refine CW.region ?_
    refine WL.step rfl (Stp.makeB (k := 16) (c := 16) rfl rfl rfl et30 ⟨Nat.le_refl 16, by decide⟩ rfl rfl hS ?_)
    intro b35 w hb35 hS hkp hnw
    refine WL.step rfl (Stp.res rfl rfl (Res.assign rfl rfl) ?_)
    refine WL.nil (Thn_n ?_)
    refine CW.seq ?_
    refine CW.seq ?_
    refine CW.region ?_
    refine WL.step rfl (Stp.res rfl rfl (Res.assign rfl rfl) ?_)
    refine WL.nil (Thn_n ?_)
    refine CW.block ?_
    refine CW.loop (σ := Nat) (fun k => [(6, .slice (some ⟨tb, to_, none⟩) Aes.boxL.length tc), (7, .pointer (some ⟨b7, 0, none⟩)), (9, .slice (some ⟨vb, vo, none⟩) (Aes.encAt key blk r).length vc), (10, .int .i64 ((r : Int) + 1)), (11, .slice (some ⟨b35, 0, none⟩) 16 16), (12, .int .i64 (k : Int))])
      (fun k w' => k ≤ 16 ∧ St w0 w' Mr [(b35, .cells (bs (Aes.upTo k (fun j => Aes.sub ((Aes.encAt key blk r).getD ((j + 4 * (j % 4)) % 16) 0)) (List.replicate 16 0))) 5 (0, 0)), (b7, .cells (bs (Aes.keysL key)) 180 (0, 0))]) (fun k => 16 - k) 0 ⟨rfl, rfl, rfl, rfl, rfl, rfl, trivial⟩ ⟨by omega, by rw [Aes.upTo_zero]; exact hS⟩ ?_
    rintro k w2 ⟨hk16, hS⟩
    refine CW.seq ?_
    refine CW.seq ?_
    refine CW.region ?_
    refine WL.step rfl (Stp.res rfl rfl (Res.move rfl rfl) ?_)
    refine WL.step rfl (Stp.res rfl rfl (Res.lss rfl rfl rfl) ?_)
    refine WL.nil (Thn_n ?_)
    refine CW.ite rfl (fun h2 => ?_) (fun h2 => ?_)
    · have hlk : k < 16 := by omega
      refine CW.skip (Thn_n ?_)
      refine CW.seq ?_
      refine CW.block ?_
      refine CW.region ?_
      refine WL.step rfl (Stp.res rfl rfl (Res.move rfl rfl) ?_)
      refine WL.step rfl (Stp.res rfl rfl (Res.move rfl rfl) ?_)
      refine WL.step rfl (Stp.res rfl rfl (Res.move rfl rfl) ?_)
      refine WL.step rfl (Stp.res rfl rfl (Res.move rfl rfl) ?_)
      refine WL.step rfl (Stp.res rfl rfl (Res.move rfl rfl) ?_)
      refine WL.step rfl (Stp.res rfl rfl (Res.move rfl rfl) ?_)
      refine WL.step rfl (Stp.res rfl rfl (Res.rem rfl rfl rfl (by omega)) ?_)
      refine WL.step rfl (Stp.res rfl rfl (Res.mul rfl rfl rfl (by omega)) ?_)
      refine WL.step rfl (Stp.res rfl rfl (Res.add rfl rfl rfl (by omega)) ?_)
      refine WL.step rfl (Stp.res rfl rfl (Res.rem rfl rfl rfl (by omega)) ?_)
      refine WL.step rfl (Stp.res rfl rfl (Res.idxS1 (k := (k + 4 * (k % 4)) % 16) rfl rfl rfl underlying30 sz5 (by omega) (by rw [Aes.encAt_length]; omega)) ?_)
      refine WL.step rfl (Stp.res rfl rfl (Res.load1 rfl rfl underlying5 rfl (hS.cell (vcell _ (by rw [Aes.encAt_length]; omega)))) ?_)
      refine WL.step rfl (Stp.res rfl rfl (Res.idxS1 (k := UInt8.toNat _) rfl rfl rfl underlying30 sz5 (Int.toNat_natCast _) ⟨Int.natCast_nonneg _, by rw [Aes.boxL_len]; exact Int.ofNat_lt.2 (UInt8.toNat_lt _)⟩) ?_)
      refine WL.step rfl (Stp.res rfl rfl (Res.load1 rfl rfl underlying5 rfl (hS.cell (PH.cell_mono hle1 (tcell _ (by rw [Aes.boxL_len]; exact UInt8.toNat_lt _))))) ?_)
      refine WL.step rfl (Stp.res rfl rfl (Res.idxS0 (k := k) rfl rfl rfl underlying30 sz5 (Int.toNat_natCast _) (by omega)) ?_)
      refine WL.step rfl (Stp.storeB 0 rfl rfl rfl sz5 rfl hS rfl (by simp; omega) ?_)
      intro w hS hpt
      refine WL.nil (Blk_n (Thn_n ?_))
      refine CW.region ?_
      refine WL.step rfl (Stp.res rfl rfl (Res.move rfl rfl) ?_)
      refine WL.step rfl (Stp.res rfl rfl (Res.add rfl rfl rfl (by omega)) ?_)
      refine WL.step rfl (Stp.res rfl rfl (Res.assign rfl rfl) ?_)
      refine WL.nil (Thn_n ?_)
      refine ⟨k + 1, ⟨rfl, rfl, rfl, rfl, rfl, rfl, trivial⟩, ⟨by omega, ?_⟩, by omega⟩
      rw [← Aes.upTo_set]
      exact hS
    · obtain rfl : k = 16 := by omega
      rw [Aes.upTo_all _ _ 16 (List.length_replicate ..), ← Aes.turn_sub] at hS
      have hF := hS.freezeG (i := 0) rfl hb35
      obtain ⟨MT, hGT, hlT, hT, hS⟩ : ∃ MT, Grow w0.heap.size M MT ∧ M1.le MT ∧ Bs MT (.slice (some ⟨b35, 0, none⟩) 16 16) (Aes.turnB 1 (Aes.subB (Aes.encAt key blk r))) ∧ St w0 w2 MT [(b7, .cells (bs (Aes.keysL key)) 180 (0, 0))] := ⟨_, hGr.trans hF.2, hle1.trans hF.2.1, Bs.of' (PH.add_self _ _ _) (by simp) (by omega), hF.1⟩
      refine CW.exit (Thn_x (Thn_x (Blk_x (Thn_n ?_))))
      refine CW.seq ?_
      refine CW.seq ?_
      refine CW.region ?_
      refine WL.step rfl (Stp.res rfl rfl (Res.move rfl rfl) ?_)
      refine WL.step rfl (Stp.res rfl rfl (Res.lss rfl rfl rfl) ?_)
      refine WL.nil (Thn_n ?_)
      refine CW.ite rfl (fun h3 => ?_) (fun h3 => ?_)
      · have hc : r + 1 < 10 := by omega
        refine CW.region ?_
        refine WL.step rfl (Stp.res rfl rfl (Res.move rfl rfl) ?_)
        refine WL.step rfl (Stp.res rfl rfl (Res.build (vals := [(0, byte 2), (1, byte 3), (2, byte 1), (3, byte 1)]) (cs := bs [2, 3, 1, 1]) rfl rfl (fun _ => by kernel_rfl)) ?_)
        refine WL.step rfl (Stp.callG (args := [_, _]) rfl rfl rfl cal139 rfl rfl hS (rmix_ok _ _ [2, 3, 1, 1] _ _ hS.on hT (by simp) rfl) ?_)
        rintro _ w MY hS hGY hX
        have hGT := hGT.trans hGY
        refine WL.step rfl (Stp.res rfl rfl (Res.assign rfl rfl) ?_)
        refine WL.nil (Thn_n ?_)
        refine CW.region ?_
        refine WL.step rfl (Stp.res rfl rfl (Res.move rfl rfl) ?_)
        refine WL.step rfl (Stp.res rfl rfl (Res.move rfl rfl) ?_)
        refine WL.step rfl (Stp.res rfl rfl (Res.idxAN (k := r + 1) rfl rfl rfl underlying180 sz78 (by omega) (by omega)) ?_)
        refine WL.step rfl (Stp.res rfl rfl (Res.loadNB (l := Aes.rk key (r + 1)) rfl rfl underlying78 rfl sz78 (Aes.rk_length hk _) (fun j hj => hS.ocell (i := 0) rfl (by rw [bs_get (by rw [Aes.keysL_length]; omega), Aes.keysL_at key _ j (by omega) hj]))) ?_)
        refine WL.step rfl (Stp.callG (args := [_, _]) rfl rfl rfl cal138 rfl rfl hS (rxor_ok _ _ (Aes.rk key (r + 1)) _ _ hS.on hX (by simp) (Aes.rk_length hk _)) ?_)
        rintro _ w MX hS hGX hX
        refine WL.step rfl (Stp.res rfl rfl (Res.assign rfl rfl) ?_)
        refine WL.nil (Blk_n (Thn_n ?_))
        refine CW.region ?_
        refine WL.step rfl (Stp.res rfl rfl (Res.move rfl rfl) ?_)
        refine WL.step rfl (Stp.res rfl rfl (Res.add rfl rfl rfl (by omega)) ?_)
        refine WL.step rfl (Stp.res rfl rfl (Res.assign rfl rfl) ?_)
        refine WL.nil (Thn_n ?_)
        refine ⟨(r + 1, _, MX), ⟨rfl, rfl, rfl, i64c (by dsimp only; omega), trivial⟩, ⟨by dsimp only; omega, ?_, hGT.trans hGX, hS, ?_⟩, by dsimp only; omega⟩
        · first | exact hlT.trans (hGY.1.trans hGX.1) | exact hlT.trans hGX.1
        · show Bs MX _ (Aes.encRound key (r + 1) (Aes.encAt key blk r))
          first | (rw [Aes.encRound, if_pos hc]; exact hX) | (rw [Aes.encRound, if_neg hc]; exact hX)
      · have hc : ¬ r + 1 < 10 := by omega
        have hX := hT
        refine CW.skip (Thn_n ?_)
        refine CW.region ?_
        refine WL.step rfl (Stp.res rfl rfl (Res.move rfl rfl) ?_)
        refine WL.step rfl (Stp.res rfl rfl (Res.move rfl rfl) ?_)
        refine WL.step rfl (Stp.res rfl rfl (Res.idxAN (k := r + 1) rfl rfl rfl underlying180 sz78 (by omega) (by omega)) ?_)
        refine WL.step rfl (Stp.res rfl rfl (Res.loadNB (l := Aes.rk key (r + 1)) rfl rfl underlying78 rfl sz78 (Aes.rk_length hk _) (fun j hj => hS.ocell (i := 0) rfl (by rw [bs_get (by rw [Aes.keysL_length]; omega), Aes.keysL_at key _ j (by omega) hj]))) ?_)
        refine WL.step rfl (Stp.callG (args := [_, _]) rfl rfl rfl cal138 rfl rfl hS (rxor_ok _ _ (Aes.rk key (r + 1)) _ _ hS.on hX (by simp) (Aes.rk_length hk _)) ?_)
        rintro _ w MX hS hGX hX
        refine WL.step rfl (Stp.res rfl rfl (Res.assign rfl rfl) ?_)
        refine WL.nil (Blk_n (Thn_n ?_))
        refine CW.region ?_
        refine WL.step rfl (Stp.res rfl rfl (Res.move rfl rfl) ?_)
        refine WL.step rfl (Stp.res rfl rfl (Res.add rfl rfl rfl (by omega)) ?_)
        refine WL.step rfl (Stp.res rfl rfl (Res.assign rfl rfl) ?_)
        refine WL.nil (Thn_n ?_)
        refine ⟨(r + 1, _, MX), ⟨rfl, rfl, rfl, i64c (by dsimp only; omega), trivial⟩, ⟨by dsimp only; omega, ?_, hGT.trans hGX, hS, ?_⟩, by dsimp only; omega⟩
        · first | exact hlT.trans (hGY.1.trans hGX.1) | exact hlT.trans hGX.1
        · show Bs MX _ (Aes.encRound key (r + 1) (Aes.encAt key blk r))
          first | (rw [Aes.encRound, if_pos hc]; exact hX) | (rw [Aes.encRound, if_neg hc]; exact hX)
  · obtain rfl : r = 10 := by omega
    refine CW.exit (Thn_x (Thn_x (Blk_x (Thn_n ?_))))
    refine CW.seq ?_
    refine CW.region ?_
    refine WL.step rfl (Stp.res rfl rfl (Res.move rfl rfl) ?_)
    refine WL.step rfl (Stp.res rfl rfl (Res.assign rfl rfl) ?_)
    refine WL.step rfl (Stp.res rfl rfl (Res.assign rfl rfl) ?_)
    refine WL.nil (Thn_n ?_)
    refine CW.ret ?_
    exact fq_tmp2 rfl rfl rfl ⟨Mr, hS.drop (i := 0) rfl hb7, hGr.1, hGr.2, _, rfl, hv⟩
end Go.Proofs.YtcmgimicdcchlaaGreatDoor
set_option linter.unusedVariables false
set_option maxRecDepth 20000
namespace Go.Proofs.YtcmgimicdcchlaaGreatDoor
open Go.Proofs.Tryz
open Go Go.E
end Go.Proofs.YtcmgimicdcchlaaGreatDoor
