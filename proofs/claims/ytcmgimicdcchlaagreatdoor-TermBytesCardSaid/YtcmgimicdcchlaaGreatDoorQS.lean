/- Lemmas on the way to the statement; no condition of its own. -/
import Derived.Lib.ItoaNum
import Derived.Shelf.Lay
import Derived.Shelf.LaysM
import Derived.Shelf.Strconv.Itoa3
import Derived.Test.YtcmgimicdcchlaaGreatDoorQP
import Derived.Test.YtcmgimicdcchlaaGreatDoorQE2
import Derived.Test.YtcmgimicdcchlaaGreatDoorQA
set_option linter.unusedVariables false
set_option maxRecDepth 20000
namespace Go.Proofs.YtcmgimicdcchlaaGreatDoor
open Go.Proofs.Tryz
open Go Go.E
def GL (M : PH) : Prop := (∃ T fr, M 1 = some (.cells (ws32 Sha.consts) T fr)) ∧ ∃ T fr, M 2 = some (.cells (Lib.pow10Tab.map fun z => Value.int .u64 z).toArray T fr)
theorem GL.mono {M M' : PH} (h : GL M) (hl : M.le M') : GL M' := by
  obtain ⟨⟨T, fr, h⟩, T', fr', h'⟩ := h
  exact ⟨⟨T, fr, hl _ _ h⟩, T', fr', hl _ _ h'⟩
theorem sz143 : (Tryz.prog.info? 143).map (·.size) = some 32 := by kernel_rfl
theorem sz222 : (Tryz.prog.info? 222).map (·.size) = some 64 := by kernel_rfl
theorem sz223 : (Tryz.prog.info? 223).map (·.size) = some 1 := by kernel_rfl
theorem sz224 : (Tryz.prog.info? 224).map (·.size) = some 8 := by kernel_rfl
theorem sz244 : (Tryz.prog.info? 244).map (·.size) = some 64 := by kernel_rfl
theorem z143 : (Tryz.prog.info? 143).map (·.zero) = some (some (.agg (bs (List.replicate 32 0)))) := by kernel_rfl
theorem z224 : (Tryz.prog.info? 224).map (·.zero) = some (some (.agg (ws32 (List.replicate 8 0)))) := by kernel_rfl
theorem z244 : (Tryz.prog.info? 244).map (·.zero) = some (some (.agg (ws32 (List.replicate 64 0)))) := by kernel_rfl
theorem cal170 : Callable Tryz.prog 170 := ⟨Tryz.f170, func170, rfl, by kernel_rfl⟩
theorem cal171 : Callable Tryz.prog 171 := ⟨Tryz.f171, func171, rfl, by kernel_rfl⟩
theorem cal172 : Callable Tryz.prog 172 := ⟨Tryz.f172, func172, rfl, by kernel_rfl⟩
theorem cal179 : Callable Tryz.prog 179 := ⟨Tryz.f179, func179, rfl, by kernel_rfl⟩
theorem cal180 : Callable Tryz.prog 180 := ⟨Tryz.f180, func180, rfl, by kernel_rfl⟩
theorem cal185 : Callable Tryz.prog 185 := ⟨Tryz.f185, func185, rfl, by kernel_rfl⟩
end Go.Proofs.YtcmgimicdcchlaaGreatDoor
set_option linter.unusedVariables false
set_option maxRecDepth 20000
namespace Go.Proofs.YtcmgimicdcchlaaGreatDoor
open Go.Proofs.Tryz
open Go Go.E
theorem rotl_ok (x : UInt32) (k : Nat) (hk : 0 < k ∧ k < 32) (w : World) : Calls Tryz.prog 185 #[w32 x, .int .i64 (-(k : Int))] w fun e w' => ∃ v, e = .returned v ∧ v = w32 (Sha.ror x k) ∧ w' = w := by
  refine enter (l := [w32 x, .int .i64 (-(k : Int))]) 17 func185 rfl ntmps185 rfl ?_
  refine CW.seq ?_
  refine CW.region ?_
  refine WL.step rfl (Stp.res rfl rfl (Res.assign (v := w32 0) rfl rfl) ?_)
  refine WL.nil (Thn_n ?_)
  refine CW.seq ?_
  refine CW.region ?_
  refine WL.step rfl (Stp.res rfl rfl (Res.move rfl rfl) ?_)
  refine WL.step rfl (Stp.res rfl rfl (Res.convNeg (a := k) uk64 rfl rfl underlying3 underlying186 ⟨hk.1, by omega⟩) ?_)
  refine WL.step rfl (Stp.res rfl rfl (Res.cast (Res.andU (a := 18446744073709551616 - k) (b := 31) uk64 rfl rfl rfl ⟨by omega, by decide⟩) (v' := .int .u64 ((32 - k : Nat) : Int)) (by rw [Sha.low5 hk.1 hk.2])) ?_)
  refine WL.step rfl (Stp.res rfl rfl (Res.assign rfl rfl) ?_)
  refine WL.nil (Thn_n ?_)
  refine CW.seq ?_
  refine CW.region ?_
  refine WL.step rfl (Stp.res rfl rfl (Res.move rfl rfl) ?_)
  refine WL.step rfl (Stp.res rfl rfl (Res.move rfl rfl) ?_)
  refine WL.step rfl (Stp.res rfl rfl (Res.shl32 (32 - k) rfl rfl rfl (by omega)) ?_)
  refine WL.step rfl (Stp.res rfl rfl (Res.move rfl rfl) ?_)
  refine WL.step rfl (Stp.res rfl rfl (Res.move rfl rfl) ?_)
  refine WL.step rfl (Stp.res rfl rfl (Res.cast (Res.subU (a := 32) (b := 32 - k) uk64 rfl rfl rfl ⟨by omega, by decide⟩) (v' := .int .u64 (k : Int)) (by congr 2; omega)) ?_)
  refine WL.step rfl (Stp.res rfl rfl (Res.shr32 k rfl rfl rfl (by omega)) ?_)
  refine WL.step rfl (Stp.res rfl rfl (Res.or32 rfl rfl rfl) ?_)
  refine WL.step rfl (Stp.res rfl rfl (Res.assign rfl rfl) ?_)
  refine WL.nil (Thn_n ?_)
  refine CW.ret ?_
  exact fq_tmp rfl rfl ⟨rfl, rfl⟩
theorem right_ok (x : UInt32) (k : Nat) (hk : 0 < k ∧ k < 32) (w : World) : Calls Tryz.prog 180 #[w32 x, .int .i64 (k : Int)] w fun e w' => ∃ v, e = .returned v ∧ v = w32 (Sha.ror x k) ∧ w' = w := by
  refine enter (l := [w32 x, .int .i64 (k : Int)]) 9 func180 rfl ntmps180 rfl ?_
  refine CW.seq ?_
  refine CW.region ?_
  refine WL.step rfl (Stp.res rfl rfl (Res.assign (v := w32 0) rfl rfl) ?_)
  refine WL.nil (Thn_n ?_)
  refine CW.seq ?_
  refine CW.region ?_
  refine WL.step rfl (Stp.res rfl rfl (Res.move rfl rfl) ?_)
  refine WL.step rfl (Stp.res rfl rfl (Res.move rfl rfl) ?_)
  refine WL.step rfl (Stp.res rfl rfl (Res.negI rfl rfl rfl (by omega)) ?_)
  refine WL.step rfl (Stp.callA (args := [_, _]) rfl rfl rfl cal185 rfl rfl (rotl_ok _ k hk _) ?_)
  refine WL.step rfl (Stp.res rfl rfl (Res.assign rfl rfl) ?_)
  refine WL.nil (Thn_n ?_)
  refine CW.ret ?_
  exact fq_tmp rfl rfl ⟨rfl, rfl⟩
end Go.Proofs.YtcmgimicdcchlaaGreatDoor
set_option linter.unusedVariables false
set_option maxRecDepth 20000
namespace Go.Proofs.YtcmgimicdcchlaaGreatDoor
open Go.Proofs.Tryz
open Go Go.E
theorem words_ok (blk : List UInt8) (w0 : World) (M : PH) (hM : On M w0) (hl : blk.length = 64) : Ok Tryz.prog 179 #[.agg (bs blk)] w0 M (fun M' r => M = M' ∧ r = .agg (ws32 (Sha.wl blk 64))) := by
  have hS := hM.st
  refine enterB (l := [.agg (bs blk)]) 83 func179 rfl ntmps179 rfl ?_
  refine CW.seq ?_
  refine CW.region ?_
  refine WL.step rfl (Stp.boxA rfl rfl rfl rfl hS ?_)
  intro b1 w hb1 hS hkp hnw
  refine WL.step rfl (Stp.alloc (cs := ws32 (List.replicate 64 0)) rfl z244 rfl rfl rfl hS ?_)
  intro b2 w hb2 hS hkp hnw
  refine WL.nil (Thn_n ?_)
  refine CW.seq ?_
  refine CW.region ?_
  refine WL.step rfl (Stp.alloc (cs := ws32 (List.replicate 64 0)) rfl z244 rfl rfl rfl hS ?_)
  intro b3 w hb3 hS hkp hnw
  refine WL.nil (Thn_n ?_)
  refine CW.seq ?_
  refine CW.seq ?_
  refine CW.region ?_
  refine WL.step rfl (Stp.res rfl rfl (Res.move rfl rfl) ?_)
  refine WL.nil (Thn_n ?_)
  refine CW.block ?_
  refine CW.loop (σ := Nat) (fun i => [(1, .pointer (some ⟨b1, 0, none⟩)), (2, .pointer (some ⟨b2, 0, none⟩)), (3, .pointer (some ⟨b3, 0, none⟩)), (10, .int .i64 (i : Int))])
    (fun i w' => i ≤ 64 ∧ St w0 w' M [(b3, .cells (ws32 (Sha.wl blk i)) 244 (0, 0)), (b2, .cells (ws32 (List.replicate 64 0)) 244 (0, 0)), (b1, .cells (bs blk) 222 (0, 0))]) (fun i => 64 - i) 0 ⟨rfl, rfl, rfl, rfl, trivial⟩ ⟨by omega, hS⟩ ?_
  rintro i w1 ⟨hi, hS⟩
  refine CW.seq ?_
  refine CW.region ?_
  refine WL.step rfl (Stp.res rfl rfl (Res.lss rfl rfl rfl) ?_)
  refine WL.nil (Thn_n ?_)
  refine CW.seq ?_
  refine CW.ite rfl (fun h => ?_) (fun h => ?_)
  · have hlt : i < 64 := by omega
    refine CW.skip (Thn_n ?_)
    refine CW.seq ?_
    refine CW.block ?_
    refine CW.seq ?_
    refine CW.region ?_
    refine WL.step rfl (Stp.res rfl rfl (Res.move rfl rfl) ?_)
    refine WL.step rfl (Stp.res rfl rfl (Res.assign rfl rfl) ?_)
    refine WL.nil (Thn_n ?_)
    refine CW.seq ?_
    refine CW.seq ?_
    refine CW.region ?_
    refine WL.step rfl (Stp.res rfl rfl (Res.move rfl rfl) ?_)
    refine WL.step rfl (Stp.res rfl rfl (Res.lss rfl rfl rfl) ?_)
    refine WL.nil (Thn_n ?_)
    refine CW.ite rfl (fun h2 => ?_) (fun h2 => ?_)
    · have h16 : i < 16 := by omega
      refine CW.seq ?_
      refine CW.region ?_
      refine WL.step rfl (Stp.res rfl rfl (Res.move rfl rfl) ?_)
      refine WL.step rfl (Stp.res rfl rfl (Res.mul rfl rfl rfl (by omega)) ?_)
      refine WL.step rfl (Stp.res rfl rfl (Res.sliceALo (l := 4 * i) rfl rfl rfl underlying222 sz5 (by omega)) ?_)
      refine WL.step rfl (Stp.res rfl rfl (Res.assign rfl rfl) ?_)
      refine WL.nil (Thn_n ?_)
      refine CW.seq ?_
      have hS := hS.drew
      refine CW.tail 24 mixed (by kernel_rfl) ?_
      refine SL.step rfl rfl rfl (Res.move rfl rfl) ?_
      refine SL.step rfl rfl rfl (Res.move rfl rfl) ?_
      refine SL.step rfl rfl rfl (Res.idxS1 (k := 0) rfl rfl rfl underlying30 sz5 rfl (by omega)) ?_
      refine SL.step rfl rfl rfl (Res.load1 rfl rfl underlying5 rfl (hS.ocell (i := 2) rfl (bs_get (by omega)))) ?_
      refine SL.step rfl rfl rfl (Res.conv32 rfl rfl underlying5 underlying223) ?_
      refine SL.step rfl rfl rfl (Res.shl32 24 rfl rfl rfl (by decide)) ?_
      refine SL.step rfl rfl rfl (Res.move rfl rfl) ?_
      refine SL.step rfl rfl rfl (Res.idxS1 (k := 1) rfl rfl rfl underlying30 sz5 rfl (by omega)) ?_
      refine SL.step rfl rfl rfl (Res.load1 rfl rfl underlying5 rfl (hS.ocell (i := 2) rfl (bs_get (by omega)))) ?_
      refine SL.step rfl rfl rfl (Res.conv32 rfl rfl underlying5 underlying223) ?_
      refine SL.step rfl rfl rfl (Res.shl32 16 rfl rfl rfl (by decide)) ?_
      refine SL.step rfl rfl rfl (Res.or32 rfl rfl rfl) ?_
      refine SL.step rfl rfl rfl (Res.move rfl rfl) ?_
      refine SL.step rfl rfl rfl (Res.idxS1 (k := 2) rfl rfl rfl underlying30 sz5 rfl (by omega)) ?_
      refine SL.step rfl rfl rfl (Res.load1 rfl rfl underlying5 rfl (hS.ocell (i := 2) rfl (bs_get (by omega)))) ?_
      refine SL.step rfl rfl rfl (Res.conv32 rfl rfl underlying5 underlying223) ?_
      refine SL.step rfl rfl rfl (Res.shl32 8 rfl rfl rfl (by decide)) ?_
      refine SL.step rfl rfl rfl (Res.or32 rfl rfl rfl) ?_
      refine SL.step rfl rfl rfl (Res.move rfl rfl) ?_
      refine SL.step rfl rfl rfl (Res.idxS1 (k := 3) rfl rfl rfl underlying30 sz5 rfl (by omega)) ?_
      refine SL.step rfl rfl rfl (Res.load1 rfl rfl underlying5 rfl (hS.ocell (i := 2) rfl (bs_get (by omega)))) ?_
      refine SL.step rfl rfl rfl (Res.conv32 rfl rfl underlying5 underlying223) ?_
      refine SL.step rfl rfl rfl (Res.or32 rfl rfl rfl) ?_
      first | refine SL.step rfl rfl rfl (Res.idxA0 rfl rfl rfl underlying244 sz223 (by first | exact Int.toNat_natCast _ | rfl) (by omega)) ?_ | refine SL.step rfl rfl rfl (Res.idxA1 rfl rfl rfl underlying244 sz223 (by first | exact Int.toNat_natCast _ | rfl) (by omega)) ?_
      refine SL.nil ?_
      refine WL.step rfl (Stp.storeW32 0 rfl rfl rfl sz223 rfl hS rfl (by rw [Sha.wl_length]; omega) ?_)
      intro w hS hpt
      refine WL.nil (Thn_n ?_)
      refine CW.exit (Thn_x (Blk_x (Thn_n ?_)))
      refine CW.region ?_
      refine WL.step rfl (Stp.res rfl rfl (Res.add rfl rfl rfl (by omega)) ?_)
      refine WL.step rfl (Stp.res rfl rfl (Res.move rfl rfl) ?_)
      refine WL.nil (Thn_n ?_)
      refine ⟨i + 1, ⟨rfl, rfl, rfl, rfl, trivial⟩, ⟨by omega, ?_⟩, by omega⟩
      rw [Sha.wl]
      first | (rw [if_pos h16]; exact hS) | (rw [if_neg h16]; exact hS)
    · have h16 : ¬ i < 16 := by omega
      refine CW.skip (Thn_n ?_)
      refine CW.seq ?_
      have hS := hS.drew
      refine CW.still mixed (by kernel_rfl) ?_
      refine SL.step rfl rfl rfl (Res.move rfl rfl) ?_
      refine SL.step rfl rfl rfl (Res.sub rfl rfl rfl (by omega)) ?_
      refine SL.step rfl rfl rfl (Res.idxA0 (k := i - 15) rfl rfl rfl underlying244 sz223 (by omega) (by omega)) ?_
      refine SL.step rfl rfl rfl (Res.load1 (v := w32 ((Sha.wl blk i).getD (i - 15) 0)) rfl rfl underlying223 rfl (hS.ocell (i := 0) rfl (ws32_get (by rw [Sha.wl_length]; omega)))) ?_
      refine SL.step rfl rfl rfl (Res.move rfl rfl) ?_
      refine SL.step rfl rfl rfl (Res.sub rfl rfl rfl (by omega)) ?_
      refine SL.step rfl rfl rfl (Res.idxA0 (k := i - 2) rfl rfl rfl underlying244 sz223 (by omega) (by omega)) ?_
      refine SL.step rfl rfl rfl (Res.load1 (v := w32 ((Sha.wl blk i).getD (i - 2) 0)) rfl rfl underlying223 rfl (hS.ocell (i := 0) rfl (ws32_get (by rw [Sha.wl_length]; omega)))) ?_
      refine SL.step rfl rfl rfl (Res.assign rfl rfl) ?_
      refine SL.step rfl rfl rfl (Res.assign rfl rfl) ?_
      refine SL.nil (Thn_n ?_)
      refine CW.seq ?_
      refine CW.region ?_
      refine WL.step rfl (Stp.res rfl rfl (Res.move rfl rfl) ?_)
      refine WL.step rfl (Stp.callA (args := [_, _]) rfl rfl rfl cal180 rfl rfl (right_ok _ 7 (by decide) _) ?_)
      refine WL.step rfl (Stp.res rfl rfl (Res.move rfl rfl) ?_)
      refine WL.step rfl (Stp.callA (args := [_, _]) rfl rfl rfl cal180 rfl rfl (right_ok _ 18 (by decide) _) ?_)
      refine WL.step rfl (Stp.res rfl rfl (Res.xor32 rfl rfl rfl) ?_)
      refine WL.step rfl (Stp.res rfl rfl (Res.move rfl rfl) ?_)
      refine WL.step rfl (Stp.res rfl rfl (Res.shr32 3 rfl rfl rfl (by decide)) ?_)
      refine WL.step rfl (Stp.res rfl rfl (Res.xor32 rfl rfl rfl) ?_)
      refine WL.step rfl (Stp.res rfl rfl (Res.assign rfl rfl) ?_)
      refine WL.nil (Thn_n ?_)
      refine CW.seq ?_
      refine CW.region ?_
      refine WL.step rfl (Stp.res rfl rfl (Res.move rfl rfl) ?_)
      refine WL.step rfl (Stp.callA (args := [_, _]) rfl rfl rfl cal180 rfl rfl (right_ok _ 17 (by decide) _) ?_)
      refine WL.step rfl (Stp.res rfl rfl (Res.move rfl rfl) ?_)
      refine WL.step rfl (Stp.callA (args := [_, _]) rfl rfl rfl cal180 rfl rfl (right_ok _ 19 (by decide) _) ?_)
      refine WL.step rfl (Stp.res rfl rfl (Res.xor32 rfl rfl rfl) ?_)
      refine WL.step rfl (Stp.res rfl rfl (Res.move rfl rfl) ?_)
      refine WL.step rfl (Stp.res rfl rfl (Res.shr32 10 rfl rfl rfl (by decide)) ?_)
      refine WL.step rfl (Stp.res rfl rfl (Res.xor32 rfl rfl rfl) ?_)
      refine WL.step rfl (Stp.res rfl rfl (Res.assign rfl rfl) ?_)
      refine WL.nil (Thn_n ?_)
      have hS := hS.drew
      have hK0 := hS
      refine CW.last (fun w' => St w0 w' M [(b3, .cells (ws32 (Sha.wl blk i)) 244 (0, 0)), (b2, .cells (ws32 (List.replicate 64 0)) 244 (0, 0)), (b1, .cells (bs blk) 222 (0, 0))]) [15] mixed ?_
      refine ZL.take 0 rfl (by kernel_rfl) rfl rfl rfl hK0 (fun w hK => Res.move rfl rfl) ?_
      refine ZL.take 1 rfl (by kernel_rfl) rfl rfl rfl hK0 (fun w hK => Res.move rfl rfl) ?_
      refine ZL.take 2 rfl (by kernel_rfl) rfl rfl rfl hK0 (fun w hK => Res.sub rfl rfl rfl (by omega)) ?_
      refine ZL.take 3 rfl (by kernel_rfl) rfl rfl rfl hK0 (fun w hK => Res.idxA0 (k := i - 16) rfl rfl rfl underlying244 sz223 (by omega) (by omega)) ?_
      refine ZL.take 4 rfl (by kernel_rfl) rfl rfl rfl hK0 (fun w hK => Res.load1 (v := w32 ((Sha.wl blk i).getD (i - 16) 0)) rfl rfl underlying223 rfl (hK.ocell (i := 0) rfl (ws32_get (by rw [Sha.wl_length]; omega)))) ?_
      refine ZL.take 5 rfl (by kernel_rfl) rfl rfl rfl hK0 (fun w hK => Res.move rfl rfl) ?_
      refine ZL.take 6 rfl (by kernel_rfl) rfl rfl rfl hK0 (fun w hK => Res.add32 rfl rfl rfl) ?_
      refine ZL.take 7 rfl (by kernel_rfl) rfl rfl rfl hK0 (fun w hK => Res.move rfl rfl) ?_
      refine ZL.take 8 rfl (by kernel_rfl) rfl rfl rfl hK0 (fun w hK => Res.sub rfl rfl rfl (by omega)) ?_
      refine ZL.take 9 rfl (by kernel_rfl) rfl rfl rfl hK0 (fun w hK => Res.idxA0 (k := i - 7) rfl rfl rfl underlying244 sz223 (by omega) (by omega)) ?_
      refine ZL.take 10 rfl (by kernel_rfl) rfl rfl rfl hK0 (fun w hK => Res.load1 (v := w32 ((Sha.wl blk i).getD (i - 7) 0)) rfl rfl underlying223 rfl (hK.ocell (i := 0) rfl (ws32_get (by rw [Sha.wl_length]; omega)))) ?_
      refine ZL.take 11 rfl (by kernel_rfl) rfl rfl rfl hK0 (fun w hK => Res.add32 rfl rfl rfl) ?_
      refine ZL.take 12 rfl (by kernel_rfl) rfl rfl rfl hK0 (fun w hK => Res.move rfl rfl) ?_
      refine ZL.take 13 rfl (by kernel_rfl) rfl rfl rfl hK0 (fun w hK => Res.add32 rfl rfl rfl) ?_
      first | refine ZL.take 14 rfl (by kernel_rfl) rfl rfl rfl hK0 (fun w hK => Res.idxA0 rfl rfl rfl underlying244 sz223 (by first | exact Int.toNat_natCast _ | rfl) (by omega)) ?_ | refine ZL.take 14 rfl (by kernel_rfl) rfl rfl rfl hK0 (fun w hK => Res.idxA1 rfl rfl rfl underlying244 sz223 (by first | exact Int.toNat_natCast _ | rfl) (by omega)) ?_
      refine ZL.end 15 (by decide) rfl (by kernel_rfl) rfl (Stp.storeW32 0 rfl rfl rfl sz223 rfl hS rfl (by rw [Sha.wl_length]; omega) ?_)
      intro w hS hpt
      refine ZL.done (by kernel_rfl) (Blk_n (Thn_n ?_))
      refine CW.region ?_
      refine WL.step rfl (Stp.res rfl rfl (Res.add rfl rfl rfl (by omega)) ?_)
      refine WL.step rfl (Stp.res rfl rfl (Res.move rfl rfl) ?_)
      refine WL.nil (Thn_n ?_)
      refine ⟨i + 1, ⟨rfl, rfl, rfl, rfl, trivial⟩, ⟨by omega, ?_⟩, by omega⟩
      rw [Sha.wl]
      first | (rw [if_pos h16]; exact hS) | (rw [if_neg h16]; exact hS)
  · obtain rfl : i = 64 := by omega
    refine CW.exit (Thn_x (Thn_x (Blk_x (Thn_n ?_))))
    refine CW.seq ?_
    refine CW.region ?_
    refine WL.step rfl (Stp.res rfl rfl (Res.loadAll rfl rfl underlying244 rfl (by rw [size_ws32, Sha.wl_length]; exact sz244) (hS.get (i := 0) rfl)) ?_)
    refine WL.step rfl (Stp.storeAllW32 1 rfl rfl rfl sz244 rfl hS rfl ⟨List.length_replicate .., Sha.wl_length ..⟩ ?_)
    intro w hS hpt
    refine WL.nil (Thn_n ?_)
    refine CW.ret ?_
    exact fq_cell rfl rfl (hS.get (i := 1) rfl) underlying244 rfl (by rw [size_ws32, Sha.wl_length]; exact sz244) ⟨M, ((hS.drop (i := 0) rfl hb3).drop (i := 0) rfl hb2).drop (i := 0) rfl hb1, PH.le.refl _, Fresh.refl _ _, rfl, rfl⟩
end Go.Proofs.YtcmgimicdcchlaaGreatDoor
set_option linter.unusedVariables false
set_option maxRecDepth 20000
namespace Go.Proofs.YtcmgimicdcchlaaGreatDoor
open Go.Proofs.Tryz
open Go Go.E
theorem first_ok  (w0 : World) (M : PH) (hM : On M w0)  : Ok Tryz.prog 170 #[] w0 M (fun M' r => M = M' ∧ r = .agg (ws32 Sha.first)) := by
  have hS := hM.st
  refine enterB (l := []) 2 func170 rfl ntmps170 rfl ?_
  refine CW.seq ?_
  refine CW.region ?_
  refine WL.step rfl (Stp.alloc (cs := ws32 (List.replicate 8 0)) rfl z224 rfl rfl rfl hS ?_)
  intro b0 w hb0 hS hkp hnw
  refine WL.nil (Thn_n ?_)
  refine CW.seq ?_
  refine CW.region ?_
  refine WL.step rfl (Stp.res rfl rfl (Res.build (vals := [(0, w32 1779033703), (1, w32 3144134277), (2, w32 1013904242), (3, w32 2773480762), (4, w32 1359893119), (5, w32 2600822924), (6, w32 528734635), (7, w32 1541459225)]) (cs := ws32 Sha.first) rfl rfl (fun _ => by kernel_rfl)) ?_)
  refine WL.step rfl (Stp.storeAllW32 0 rfl rfl rfl sz224 rfl hS rfl ⟨List.length_replicate .., rfl⟩ ?_)
  intro w hS hpt
  refine WL.nil (Thn_n ?_)
  refine CW.ret ?_
  exact fq_cell rfl rfl (hS.get (i := 0) rfl) underlying224 rfl (by rw [size_ws32]; exact sz224) ⟨M, hS.drop (i := 0) rfl hb0, PH.le.refl _, Fresh.refl _ _, rfl, rfl⟩
theorem block_ok (st : List UInt32) (blk : List UInt8) (w0 : World) (M : PH) (hM : On M w0) (hgl : GL M) (hst : st.length = 8) (hblk : blk.length = 64) : Ok Tryz.prog 172 #[.agg (ws32 st), .agg (bs blk)] w0 M (fun M' r => M = M' ∧ r = .agg (ws32 (Sha.block st blk))) := by
  have hS := hM.st
  obtain ⟨⟨glT, glf, hgl⟩, _⟩ := hgl
  refine enterB (l := [.agg (ws32 st), .agg (bs blk)]) 122 func172 rfl ntmps172 rfl ?_
  refine CW.seq ?_
  refine CW.region ?_
  refine WL.step rfl (Stp.boxA rfl rfl rfl rfl hS ?_)
  intro b2 w hb2 hS hkp hnw
  refine WL.step rfl (Stp.boxA rfl rfl rfl rfl hS ?_)
  intro b3 w hb3 hS hkp hnw
  refine WL.step rfl (Stp.alloc (cs := ws32 (List.replicate 8 0)) rfl z224 rfl rfl rfl hS ?_)
  intro b4 w hb4 hS hkp hnw
  refine WL.nil (Thn_n ?_)
  refine CW.seq ?_
  refine CW.region ?_
  refine WL.step rfl (Stp.res rfl rfl (Res.loadAll rfl rfl underlying222 rfl (by rw [size_bs, hblk]; exact sz222) (hS.get (i := 1) rfl)) ?_)
  refine WL.step rfl (Stp.callG (args := [_]) rfl rfl rfl cal179 rfl rfl hS (words_ok _ _ _ hS.on hblk) ?_)
  rintro _ w _ hS _ ⟨rfl, rfl⟩
  refine WL.step rfl (Stp.alloc (cs := ws32 (List.replicate 64 0)) rfl z244 rfl rfl rfl hS ?_)
  intro b5 w hb5 hS hkp hnw
  refine WL.step rfl (Stp.storeAllW32 0 rfl rfl rfl sz244 rfl hS rfl ⟨List.length_replicate .., Sha.wl_length ..⟩ ?_)
  intro w hS hpt
  refine WL.nil (Thn_n ?_)
  refine CW.seq ?_
  have hS := hS.drew
  refine CW.still mixed (by kernel_rfl) ?_
  first | refine SL.step rfl rfl rfl (Res.idxA0 rfl rfl rfl underlying224 sz223 (show (0 : Int).toNat = 0 from rfl) (by omega)) ?_ | refine SL.step rfl rfl rfl (Res.idxA1 rfl rfl rfl underlying224 sz223 (show (0 : Int).toNat = 0 from rfl) (by omega)) ?_
  refine SL.step rfl rfl rfl (Res.load1 (v := w32 (st.getD 0 0)) rfl rfl underlying223 rfl (hS.ocell (i := 3) rfl (ws32_get (by omega)))) ?_
  first | refine SL.step rfl rfl rfl (Res.idxA0 rfl rfl rfl underlying224 sz223 (show (1 : Int).toNat = 1 from rfl) (by omega)) ?_ | refine SL.step rfl rfl rfl (Res.idxA1 rfl rfl rfl underlying224 sz223 (show (1 : Int).toNat = 1 from rfl) (by omega)) ?_
  refine SL.step rfl rfl rfl (Res.load1 (v := w32 (st.getD 1 0)) rfl rfl underlying223 rfl (hS.ocell (i := 3) rfl (ws32_get (by omega)))) ?_
  first | refine SL.step rfl rfl rfl (Res.idxA0 rfl rfl rfl underlying224 sz223 (show (2 : Int).toNat = 2 from rfl) (by omega)) ?_ | refine SL.step rfl rfl rfl (Res.idxA1 rfl rfl rfl underlying224 sz223 (show (2 : Int).toNat = 2 from rfl) (by omega)) ?_
  refine SL.step rfl rfl rfl (Res.load1 (v := w32 (st.getD 2 0)) rfl rfl underlying223 rfl (hS.ocell (i := 3) rfl (ws32_get (by omega)))) ?_
  first | refine SL.step rfl rfl rfl (Res.idxA0 rfl rfl rfl underlying224 sz223 (show (3 : Int).toNat = 3 from rfl) (by omega)) ?_ | refine SL.step rfl rfl rfl (Res.idxA1 rfl rfl rfl underlying224 sz223 (show (3 : Int).toNat = 3 from rfl) (by omega)) ?_
  refine SL.step rfl rfl rfl (Res.load1 (v := w32 (st.getD 3 0)) rfl rfl underlying223 rfl (hS.ocell (i := 3) rfl (ws32_get (by omega)))) ?_
  first | refine SL.step rfl rfl rfl (Res.idxA0 rfl rfl rfl underlying224 sz223 (show (4 : Int).toNat = 4 from rfl) (by omega)) ?_ | refine SL.step rfl rfl rfl (Res.idxA1 rfl rfl rfl underlying224 sz223 (show (4 : Int).toNat = 4 from rfl) (by omega)) ?_
  refine SL.step rfl rfl rfl (Res.load1 (v := w32 (st.getD 4 0)) rfl rfl underlying223 rfl (hS.ocell (i := 3) rfl (ws32_get (by omega)))) ?_
  first | refine SL.step rfl rfl rfl (Res.idxA0 rfl rfl rfl underlying224 sz223 (show (5 : Int).toNat = 5 from rfl) (by omega)) ?_ | refine SL.step rfl rfl rfl (Res.idxA1 rfl rfl rfl underlying224 sz223 (show (5 : Int).toNat = 5 from rfl) (by omega)) ?_
  refine SL.step rfl rfl rfl (Res.load1 (v := w32 (st.getD 5 0)) rfl rfl underlying223 rfl (hS.ocell (i := 3) rfl (ws32_get (by omega)))) ?_
  first | refine SL.step rfl rfl rfl (Res.idxA0 rfl rfl rfl underlying224 sz223 (show (6 : Int).toNat = 6 from rfl) (by omega)) ?_ | refine SL.step rfl rfl rfl (Res.idxA1 rfl rfl rfl underlying224 sz223 (show (6 : Int).toNat = 6 from rfl) (by omega)) ?_
  refine SL.step rfl rfl rfl (Res.load1 (v := w32 (st.getD 6 0)) rfl rfl underlying223 rfl (hS.ocell (i := 3) rfl (ws32_get (by omega)))) ?_
  first | refine SL.step rfl rfl rfl (Res.idxA0 rfl rfl rfl underlying224 sz223 (show (7 : Int).toNat = 7 from rfl) (by omega)) ?_ | refine SL.step rfl rfl rfl (Res.idxA1 rfl rfl rfl underlying224 sz223 (show (7 : Int).toNat = 7 from rfl) (by omega)) ?_
  refine SL.step rfl rfl rfl (Res.load1 (v := w32 (st.getD 7 0)) rfl rfl underlying223 rfl (hS.ocell (i := 3) rfl (ws32_get (by omega)))) ?_
  refine SL.step rfl rfl rfl (Res.assign rfl rfl) ?_
  refine SL.step rfl rfl rfl (Res.assign rfl rfl) ?_
  refine SL.step rfl rfl rfl (Res.assign rfl rfl) ?_
  refine SL.step rfl rfl rfl (Res.assign rfl rfl) ?_
  refine SL.step rfl rfl rfl (Res.assign rfl rfl) ?_
  refine SL.step rfl rfl rfl (Res.assign rfl rfl) ?_
  refine SL.step rfl rfl rfl (Res.assign rfl rfl) ?_
  refine SL.step rfl rfl rfl (Res.assign rfl rfl) ?_
  refine SL.nil (Thn_n ?_)
  refine CW.seq ?_
  refine CW.seq ?_
  refine CW.region ?_
  refine WL.step rfl (Stp.res rfl rfl (Res.loadAll rfl rfl underlying244 rfl (by rw [size_ws32]; exact sz244) (hS.on _ _ hgl)) ?_)
  refine WL.step rfl (Stp.res rfl rfl (Res.move rfl rfl) ?_)
  refine WL.nil (Thn_n ?_)
  refine CW.block ?_
  refine CW.loop (σ := Nat) (fun t => [(2, .pointer (some ⟨b2, 0, none⟩)), (4, .pointer (some ⟨b4, 0, none⟩)), (5, .pointer (some ⟨b5, 0, none⟩)), (6, w32 (Sha.rounds st (Sha.wl blk 64) t).a), (7, w32 (Sha.rounds st (Sha.wl blk 64) t).b), (8, w32 (Sha.rounds st (Sha.wl blk 64) t).c), (9, w32 (Sha.rounds st (Sha.wl blk 64) t).d), (10, w32 (Sha.rounds st (Sha.wl blk 64) t).e), (11, w32 (Sha.rounds st (Sha.wl blk 64) t).f), (12, w32 (Sha.rounds st (Sha.wl blk 64) t).g), (13, w32 (Sha.rounds st (Sha.wl blk 64) t).h), (38, .agg (ws32 Sha.consts)), (39, .int .i64 (t : Int))])
    (fun t w' => t ≤ 64 ∧ St w0 w' M [(b5, .cells (ws32 (Sha.wl blk 64)) 244 (0, 0)), (b4, .cells (ws32 (List.replicate 8 0)) 224 (0, 0)), (b3, .cells (bs blk) 222 (0, 0)), (b2, .cells (ws32 (st)) 224 (0, 0))]) (fun t => 64 - t) 0 ⟨rfl, rfl, rfl, rfl, rfl, rfl, rfl, rfl, rfl, rfl, rfl, rfl, rfl, trivial⟩ ⟨by omega, hS⟩ ?_
  rintro t w1 ⟨ht, hS⟩
  refine CW.seq ?_
  refine CW.region ?_
  refine WL.step rfl (Stp.res rfl rfl (Res.lss rfl rfl rfl) ?_)
  refine WL.nil (Thn_n ?_)
  refine CW.seq ?_
  refine CW.ite rfl (fun h => ?_) (fun h => ?_)
  · have hlt : t < 64 := by omega
    refine CW.skip (Thn_n ?_)
    refine CW.seq ?_
    refine CW.block ?_
    refine CW.seq ?_
    refine CW.region ?_
    refine WL.step rfl (Stp.res rfl rfl (Res.move rfl rfl) ?_)
    refine WL.step rfl (Stp.res rfl rfl (Res.index1 (v := w32 (Sha.consts.getD t 0)) rfl rfl rfl underlying244 sz223 underlying223 rfl (Int.toNat_natCast _) (by omega) (ws32_get (by rw [Sha.consts_len]; omega))) ?_)
    refine WL.step rfl (Stp.res rfl rfl (Res.assign rfl rfl) ?_)
    refine WL.step rfl (Stp.res rfl rfl (Res.assign rfl rfl) ?_)
    refine WL.nil (Thn_n ?_)
    refine CW.seq ?_
    have hS := hS.drew
    have hK0 := hS
    refine CW.held (fun w' => St w0 w' M [(b5, .cells (ws32 (Sha.wl blk 64)) 244 (0, 0)), (b4, .cells (ws32 (List.replicate 8 0)) 224 (0, 0)), (b3, .cells (bs blk) 222 (0, 0)), (b2, .cells (ws32 (st)) 224 (0, 0))]) mixed ?_
    refine AL.take 0 rfl (by kernel_rfl) (by kernel_rfl) (by kernel_rfl) rfl rfl rfl hK0 (fun w hK => Res.move rfl rfl) ?_
    refine AL.take 1 rfl (by kernel_rfl) (by kernel_rfl) (by kernel_rfl) rfl rfl rfl hK0 (fun w hK => Res.move rfl rfl) ?_
    refine AL.take 3 rfl (by kernel_rfl) (by kernel_rfl) (by kernel_rfl) rfl rfl rfl hK0 (fun w hK => Res.move rfl rfl) ?_
    refine AL.take 6 rfl (by kernel_rfl) (by kernel_rfl) (by kernel_rfl) rfl rfl rfl hK0 (fun w hK => Res.move rfl rfl) ?_
    refine AL.take 10 rfl (by kernel_rfl) (by kernel_rfl) (by kernel_rfl) rfl rfl rfl hK0 (fun w hK => Res.move rfl rfl) ?_
    refine AL.take 11 rfl (by kernel_rfl) (by kernel_rfl) (by kernel_rfl) rfl rfl rfl hK0 (fun w hK => Res.move rfl rfl) ?_
    refine AL.take 12 rfl (by kernel_rfl) (by kernel_rfl) (by kernel_rfl) rfl rfl rfl hK0 (fun w hK => Res.and32 rfl rfl rfl) ?_
    refine AL.take 13 rfl (by kernel_rfl) (by kernel_rfl) (by kernel_rfl) rfl rfl rfl hK0 (fun w hK => Res.move rfl rfl) ?_
    refine AL.take 14 rfl (by kernel_rfl) (by kernel_rfl) (by kernel_rfl) rfl rfl rfl hK0 (fun w hK => Res.com32 rfl rfl rfl) ?_
    refine AL.take 15 rfl (by kernel_rfl) (by kernel_rfl) (by kernel_rfl) rfl rfl rfl hK0 (fun w hK => Res.move rfl rfl) ?_
    refine AL.take 16 rfl (by kernel_rfl) (by kernel_rfl) (by kernel_rfl) rfl rfl rfl hK0 (fun w hK => Res.and32 rfl rfl rfl) ?_
    refine AL.take 17 rfl (by kernel_rfl) (by kernel_rfl) (by kernel_rfl) rfl rfl rfl hK0 (fun w hK => Res.xor32 rfl rfl rfl) ?_
    refine AL.take 19 rfl (by kernel_rfl) (by kernel_rfl) (by kernel_rfl) rfl rfl rfl hK0 (fun w hK => Res.move rfl rfl) ?_
    refine AL.take 21 rfl (by kernel_rfl) (by kernel_rfl) (by kernel_rfl) rfl rfl rfl hK0 (fun w hK => Res.move rfl rfl) ?_
    first | refine AL.take 22 rfl (by kernel_rfl) (by kernel_rfl) (by kernel_rfl) rfl rfl rfl hK0 (fun w hK => Res.idxA0 rfl rfl rfl underlying244 sz223 (by first | exact Int.toNat_natCast _ | rfl) (by omega)) ?_ | refine AL.take 22 rfl (by kernel_rfl) (by kernel_rfl) (by kernel_rfl) rfl rfl rfl hK0 (fun w hK => Res.idxA1 rfl rfl rfl underlying244 sz223 (by first | exact Int.toNat_natCast _ | rfl) (by omega)) ?_
    refine AL.take 23 rfl (by kernel_rfl) (by kernel_rfl) (by kernel_rfl) rfl rfl rfl hK0 (fun w hK => Res.load1 (v := w32 ((Sha.wl blk 64).getD t 0)) rfl rfl underlying223 rfl (hK.ocell (i := 0) rfl (ws32_get (by rw [Sha.wl_length]; omega)))) ?_
    refine AL.one 2 rfl (by kernel_rfl) rfl (Stp.callA (args := [_, _]) rfl rfl rfl cal180 rfl rfl (right_ok _ 6 (by decide) _) ?_)
    skip
    refine ⟨hK0, ?_⟩
    refine AL.one 4 rfl (by kernel_rfl) rfl (Stp.callA (args := [_, _]) rfl rfl rfl cal180 rfl rfl (right_ok _ 11 (by decide) _) ?_)
    skip
    refine ⟨hK0, ?_⟩
    refine AL.take 5 rfl (by kernel_rfl) (by kernel_rfl) (by kernel_rfl) rfl rfl rfl hK0 (fun w hK => Res.xor32 rfl rfl rfl) ?_
    refine AL.one 7 rfl (by kernel_rfl) rfl (Stp.callA (args := [_, _]) rfl rfl rfl cal180 rfl rfl (right_ok _ 25 (by decide) _) ?_)
    skip
    refine ⟨hK0, ?_⟩
    refine AL.take 8 rfl (by kernel_rfl) (by kernel_rfl) (by kernel_rfl) rfl rfl rfl hK0 (fun w hK => Res.xor32 rfl rfl rfl) ?_
    refine AL.take 9 rfl (by kernel_rfl) (by kernel_rfl) (by kernel_rfl) rfl rfl rfl hK0 (fun w hK => Res.add32 rfl rfl rfl) ?_
    refine AL.take 18 rfl (by kernel_rfl) (by kernel_rfl) (by kernel_rfl) rfl rfl rfl hK0 (fun w hK => Res.add32 rfl rfl rfl) ?_
    refine AL.take 20 rfl (by kernel_rfl) (by kernel_rfl) (by kernel_rfl) rfl rfl rfl hK0 (fun w hK => Res.add32 rfl rfl rfl) ?_
    refine AL.take 24 rfl (by kernel_rfl) (by kernel_rfl) (by kernel_rfl) rfl rfl rfl hK0 (fun w hK => Res.add32 rfl rfl rfl) ?_
    refine AL.take 25 rfl (by kernel_rfl) (by kernel_rfl) (by kernel_rfl) rfl rfl rfl hK0 (fun w hK => Res.assign rfl rfl) ?_
    refine AL.done (by kernel_rfl) (Thn_n ?_)
    refine CW.seq ?_
    refine CW.region ?_
    refine WL.step rfl (Stp.res rfl rfl (Res.move rfl rfl) ?_)
    refine WL.step rfl (Stp.callA (args := [_, _]) rfl rfl rfl cal180 rfl rfl (right_ok _ 2 (by decide) _) ?_)
    refine WL.step rfl (Stp.res rfl rfl (Res.move rfl rfl) ?_)
    refine WL.step rfl (Stp.callA (args := [_, _]) rfl rfl rfl cal180 rfl rfl (right_ok _ 13 (by decide) _) ?_)
    refine WL.step rfl (Stp.res rfl rfl (Res.xor32 rfl rfl rfl) ?_)
    refine WL.step rfl (Stp.res rfl rfl (Res.move rfl rfl) ?_)
    refine WL.step rfl (Stp.callA (args := [_, _]) rfl rfl rfl cal180 rfl rfl (right_ok _ 22 (by decide) _) ?_)
    refine WL.step rfl (Stp.res rfl rfl (Res.xor32 rfl rfl rfl) ?_)
    refine WL.step rfl (Stp.res rfl rfl (Res.move rfl rfl) ?_)
    refine WL.step rfl (Stp.res rfl rfl (Res.move rfl rfl) ?_)
    refine WL.step rfl (Stp.res rfl rfl (Res.and32 rfl rfl rfl) ?_)
    refine WL.step rfl (Stp.res rfl rfl (Res.move rfl rfl) ?_)
    refine WL.step rfl (Stp.res rfl rfl (Res.move rfl rfl) ?_)
    refine WL.step rfl (Stp.res rfl rfl (Res.and32 rfl rfl rfl) ?_)
    refine WL.step rfl (Stp.res rfl rfl (Res.xor32 rfl rfl rfl) ?_)
    refine WL.step rfl (Stp.res rfl rfl (Res.move rfl rfl) ?_)
    refine WL.step rfl (Stp.res rfl rfl (Res.move rfl rfl) ?_)
    refine WL.step rfl (Stp.res rfl rfl (Res.and32 rfl rfl rfl) ?_)
    refine WL.step rfl (Stp.res rfl rfl (Res.xor32 rfl rfl rfl) ?_)
    refine WL.step rfl (Stp.res rfl rfl (Res.add32 rfl rfl rfl) ?_)
    refine WL.step rfl (Stp.res rfl rfl (Res.assign rfl rfl) ?_)
    refine WL.nil (Thn_n ?_)
    refine CW.seq ?_
    refine CW.region ?_
    refine WL.step rfl (Stp.res rfl rfl (Res.move rfl rfl) ?_)
    refine WL.step rfl (Stp.res rfl rfl (Res.move rfl rfl) ?_)
    refine WL.step rfl (Stp.res rfl rfl (Res.move rfl rfl) ?_)
    refine WL.step rfl (Stp.res rfl rfl (Res.move rfl rfl) ?_)
    refine WL.step rfl (Stp.res rfl rfl (Res.move rfl rfl) ?_)
    refine WL.step rfl (Stp.res rfl rfl (Res.add32 rfl rfl rfl) ?_)
    refine WL.step rfl (Stp.res rfl rfl (Res.assign rfl rfl) ?_)
    refine WL.step rfl (Stp.res rfl rfl (Res.assign rfl rfl) ?_)
    refine WL.step rfl (Stp.res rfl rfl (Res.assign rfl rfl) ?_)
    refine WL.step rfl (Stp.res rfl rfl (Res.assign rfl rfl) ?_)
    refine WL.nil (Thn_n ?_)
    refine CW.region ?_
    refine WL.step rfl (Stp.res rfl rfl (Res.move rfl rfl) ?_)
    refine WL.step rfl (Stp.res rfl rfl (Res.move rfl rfl) ?_)
    refine WL.step rfl (Stp.res rfl rfl (Res.move rfl rfl) ?_)
    refine WL.step rfl (Stp.res rfl rfl (Res.move rfl rfl) ?_)
    refine WL.step rfl (Stp.res rfl rfl (Res.move rfl rfl) ?_)
    refine WL.step rfl (Stp.res rfl rfl (Res.add32 rfl rfl rfl) ?_)
    refine WL.step rfl (Stp.res rfl rfl (Res.assign rfl rfl) ?_)
    refine WL.step rfl (Stp.res rfl rfl (Res.assign rfl rfl) ?_)
    refine WL.step rfl (Stp.res rfl rfl (Res.assign rfl rfl) ?_)
    refine WL.step rfl (Stp.res rfl rfl (Res.assign rfl rfl) ?_)
    refine WL.nil (Blk_n (Thn_n ?_))
    refine CW.region ?_
    refine WL.step rfl (Stp.res rfl rfl (Res.add rfl rfl rfl (by omega)) ?_)
    refine WL.step rfl (Stp.res rfl rfl (Res.move rfl rfl) ?_)
    refine WL.nil (Thn_n ?_)
    exact ⟨t + 1, ⟨rfl, rfl, rfl, rfl, rfl, rfl, rfl, rfl, rfl, rfl, rfl, rfl, rfl, trivial⟩, ⟨by omega, hS⟩, by omega⟩
  · obtain rfl : t = 64 := by omega
    generalize hR : Sha.rounds st (Sha.wl blk 64) 64 = R
    refine CW.exit (Thn_x (Thn_x (Blk_x (Thn_n ?_))))
    refine CW.seq ?_
    refine CW.seq ?_
    refine CW.region ?_
    refine WL.step rfl (Stp.res rfl rfl (Res.move rfl rfl) ?_)
    refine WL.step rfl (Stp.res rfl rfl (Res.move rfl rfl) ?_)
    refine WL.step rfl (Stp.res rfl rfl (Res.move rfl rfl) ?_)
    refine WL.step rfl (Stp.res rfl rfl (Res.move rfl rfl) ?_)
    refine WL.step rfl (Stp.res rfl rfl (Res.move rfl rfl) ?_)
    refine WL.step rfl (Stp.res rfl rfl (Res.move rfl rfl) ?_)
    refine WL.step rfl (Stp.res rfl rfl (Res.move rfl rfl) ?_)
    refine WL.step rfl (Stp.res rfl rfl (Res.move rfl rfl) ?_)
    refine WL.step rfl (Stp.res rfl rfl (Res.build (vals := [(0, w32 R.a), (1, w32 R.b), (2, w32 R.c), (3, w32 R.d), (4, w32 R.e), (5, w32 R.f), (6, w32 R.g), (7, w32 R.h)]) (cs := ws32 R.list) rfl rfl (fun _ => by kernel_rfl)) ?_)
    refine WL.step rfl (Stp.res rfl rfl (Res.move rfl rfl) ?_)
    refine WL.nil (Thn_n ?_)
    refine CW.block ?_
    refine CW.loop (σ := Nat) (fun i => [(2, .pointer (some ⟨b2, 0, none⟩)), (4, .pointer (some ⟨b4, 0, none⟩)), (109, .agg (ws32 R.list)), (110, .int .i64 (i : Int))])
      (fun i w' => i ≤ 8 ∧ St w0 w' M [(b5, .cells (ws32 (Sha.wl blk 64)) 244 (0, 0)), (b4, .cells (ws32 (List.replicate 8 0)) 224 (0, 0)), (b3, .cells (bs blk) 222 (0, 0)), (b2, .cells (ws32 (Sha.sums st R.list i)) 224 (0, 0))]) (fun i => 8 - i) 0 ⟨rfl, rfl, rfl, rfl, trivial⟩ ⟨by omega, hS⟩ ?_
    rintro i w2 ⟨hi, hS⟩
    refine CW.seq ?_
    refine CW.region ?_
    refine WL.step rfl (Stp.res rfl rfl (Res.lss rfl rfl rfl) ?_)
    refine WL.nil (Thn_n ?_)
    refine CW.seq ?_
    refine CW.ite rfl (fun h2 => ?_) (fun h2 => ?_)
    · have hlt : i < 8 := by omega
      refine CW.skip (Thn_n ?_)
      refine CW.seq ?_
      refine CW.block ?_
      refine CW.seq ?_
      refine CW.region ?_
      refine WL.step rfl (Stp.res rfl rfl (Res.move rfl rfl) ?_)
      refine WL.step rfl (Stp.res rfl rfl (Res.index1 (v := w32 (R.list.getD i 0)) rfl rfl rfl underlying224 sz223 underlying223 rfl (Int.toNat_natCast _) (by omega) (ws32_get (by show i < 8; omega))) ?_)
      refine WL.step rfl (Stp.res rfl rfl (Res.assign rfl rfl) ?_)
      refine WL.step rfl (Stp.res rfl rfl (Res.assign rfl rfl) ?_)
      refine WL.nil (Thn_n ?_)
      refine CW.region ?_
      refine WL.step rfl (Stp.res rfl rfl (Res.move rfl rfl) ?_)
      first | refine WL.step rfl (Stp.res rfl rfl (Res.idxA0 rfl rfl rfl underlying224 sz223 (by first | exact Int.toNat_natCast _ | rfl) (by omega)) ?_) | refine WL.step rfl (Stp.res rfl rfl (Res.idxA1 rfl rfl rfl underlying224 sz223 (by first | exact Int.toNat_natCast _ | rfl) (by omega)) ?_)
      refine WL.step rfl (Stp.res rfl rfl (Res.load1 (v := w32 ((Sha.sums st R.list i).getD i 0)) rfl rfl underlying223 rfl (hS.ocell (i := 3) rfl (ws32_get (by rw [Sha.sums_length]; omega)))) ?_)
      refine WL.step rfl (Stp.res rfl rfl (Res.move rfl rfl) ?_)
      refine WL.step rfl (Stp.res rfl rfl (Res.add32 rfl rfl rfl) ?_)
      first | refine WL.step rfl (Stp.res rfl rfl (Res.idxA0 rfl rfl rfl underlying224 sz223 (by first | exact Int.toNat_natCast _ | rfl) (by omega)) ?_) | refine WL.step rfl (Stp.res rfl rfl (Res.idxA1 rfl rfl rfl underlying224 sz223 (by first | exact Int.toNat_natCast _ | rfl) (by omega)) ?_)
      refine WL.step rfl (Stp.storeW32 3 rfl rfl rfl sz223 rfl hS rfl (by rw [Sha.sums_length]; omega) ?_)
      intro w hS hpt
      refine WL.nil (Blk_n (Thn_n ?_))
      refine CW.region ?_
      refine WL.step rfl (Stp.res rfl rfl (Res.add rfl rfl rfl (by omega)) ?_)
      refine WL.step rfl (Stp.res rfl rfl (Res.move rfl rfl) ?_)
      refine WL.nil (Thn_n ?_)
      exact ⟨i + 1, ⟨rfl, rfl, rfl, rfl, trivial⟩, ⟨by omega, hS⟩, by omega⟩
    · obtain rfl : i = 8 := by omega
      refine CW.exit (Thn_x (Thn_x (Blk_x (Thn_n ?_))))
      refine CW.seq ?_
      refine CW.region ?_
      refine WL.step rfl (Stp.res rfl rfl (Res.loadAll rfl rfl underlying224 rfl (by rw [size_ws32, Sha.sums_length, hst]; exact sz224) (hS.get (i := 3) rfl)) ?_)
      refine WL.step rfl (Stp.storeAllW32 1 rfl rfl rfl sz224 rfl hS rfl ⟨List.length_replicate .., by rw [Sha.sums_length, hst]⟩ ?_)
      intro w hS hpt
      refine WL.nil (Thn_n ?_)
      refine CW.ret ?_
      exact fq_cell rfl rfl (hS.get (i := 1) rfl) underlying224 rfl (by rw [size_ws32, Sha.sums_length, hst]; exact sz224) ⟨M, (((hS.drop (i := 0) rfl hb5).drop (i := 0) rfl hb4).drop (i := 0) rfl hb3).drop (i := 0) rfl hb2, PH.le.refl _, Fresh.refl _ _, rfl, by rw [Sha.block, hR]⟩
end Go.Proofs.YtcmgimicdcchlaaGreatDoor
set_option linter.unusedVariables false
set_option maxRecDepth 20000
namespace Go.Proofs.YtcmgimicdcchlaaGreatDoor
open Go.Proofs.Tryz
open Go Go.E
theorem pad_ok (v : Value) (l : List UInt8) (w0 : World) (M : PH) (hM : On M w0) (hv : Bs M v l) (hlen : l.length ≤ 1099511627776) : Ok Tryz.prog 171 #[v] w0 M (fun M' r => Bs M' r (Sha.pad l)) := by
  have hS := hM.st
  have hv0 := hv
  obtain ⟨va, vc, rfl, v1, v2, v3, v4⟩ := hv
  have hN := Sha.padN_ge l.length
  refine enterB (l := [.slice va l.length vc]) 40 func171 rfl ntmps171 rfl ?_
  refine CW.seq ?_
  refine CW.region ?_
  refine WL.step rfl (Stp.res rfl rfl (Res.assign rfl rfl) ?_)
  refine WL.nil (Thn_n ?_)
  refine CW.seq ?_
  refine CW.region ?_
  refine WL.step rfl (Stp.res rfl rfl (Res.move rfl rfl) ?_)
  refine WL.step rfl (Stp.res rfl rfl (Res.len rfl rfl rfl rfl underlying30) ?_)
  refine WL.step rfl (Stp.res rfl rfl (Res.add rfl rfl rfl (by omega)) ?_)
  refine WL.step rfl (Stp.res rfl rfl (Res.add rfl rfl rfl (by omega)) ?_)
  refine WL.step rfl (Stp.res rfl rfl (Res.quo rfl rfl rfl (by omega)) ?_)
  refine WL.step rfl (Stp.res rfl rfl (Res.cast (Res.mul rfl rfl rfl (by omega)) (v' := .int .i64 ((Sha.padN l.length : Nat) : Int)) (by congr 1)) ?_)
  refine WL.step rfl (Stp.res rfl rfl (Res.assign rfl rfl) ?_)
  refine WL.nil (Thn_n ?_)
  refine CW.seq ?_
  refine CW.region ?_
  refine WL.step rfl (Stp.res rfl rfl (Res.move rfl rfl) ?_)
  refine WL.step rfl (Stp.makeB (k := Sha.padN l.length) (c := Sha.padN l.length) rfl rfl rfl et30 ⟨Nat.le_refl _, by omega⟩ rfl rfl hS ?_)
  intro b14 w hb14 hS hkp hnw
  refine WL.step rfl (Stp.res rfl rfl (Res.assign rfl rfl) ?_)
  refine WL.nil (Thn_n ?_)
  refine CW.seq ?_
  refine CW.region ?_
  refine WL.step rfl (Stp.res rfl rfl (Res.move rfl rfl) ?_)
  refine WL.step rfl (Stp.res rfl rfl (Res.move rfl rfl) ?_)
  refine WL.step rfl (Stp.copyB 0 rfl rfl rfl rfl underlying30 sz5 rfl rfl hS rfl hv0 (by rw [List.length_replicate]; omega) ?_)
  intro w hS hpt
  rw [Sha.pad_copy] at hS
  refine WL.nil (Thn_n ?_)
  refine CW.seq ?_
  refine CW.region ?_
  refine WL.step rfl (Stp.res rfl rfl (Res.move rfl rfl) ?_)
  refine WL.step rfl (Stp.res rfl rfl (Res.move rfl rfl) ?_)
  refine WL.step rfl (Stp.res rfl rfl (Res.len rfl rfl rfl rfl underlying30) ?_)
  refine WL.step rfl (Stp.res rfl rfl (Res.idxS0 (k := l.length) rfl rfl rfl underlying30 sz5 (Int.toNat_natCast _) (by omega)) ?_)
  refine WL.step rfl (Stp.storeB (a := 128) 0 rfl rfl rfl sz5 rfl hS rfl (by simp; omega) ?_)
  intro w hS hpt
  rw [Sha.pad_128] at hS
  refine WL.nil (Thn_n ?_)
  refine CW.seq ?_
  refine CW.seq ?_
  refine CW.region ?_
  refine WL.step rfl (Stp.res rfl rfl (Res.move rfl rfl) ?_)
  refine WL.step rfl (Stp.res rfl rfl (Res.sub rfl rfl rfl (by omega)) ?_)
  refine WL.step rfl (Stp.res rfl rfl (Res.move rfl rfl) ?_)
  refine WL.step rfl (Stp.res rfl rfl (Res.len rfl rfl rfl rfl underlying30) ?_)
  refine WL.step rfl (Stp.res rfl rfl (Res.convW (a := l.length) uk64 rfl rfl underlying3 underlying124 (by omega)) ?_)
  refine WL.step rfl (Stp.res rfl rfl (Res.cast (Res.mulU (a := l.length) (b := 8) uk64 rfl rfl rfl) (v' := .int .u64 ((l.length * 8 / 256 ^ 0 : Nat) : Int)) (by congr 2; omega)) ?_)
  refine WL.step rfl (Stp.res rfl rfl (Res.assign rfl rfl) ?_)
  refine WL.step rfl (Stp.res rfl rfl (Res.assign rfl rfl) ?_)
  refine WL.nil (Thn_n ?_)
  refine CW.block ?_
  refine CW.loop (σ := Nat) (fun k => [(4, .slice (some ⟨b14, 0, none⟩) (Sha.padN l.length) (Sha.padN l.length)), (5, .int .i64 ((Sha.padN l.length : Int) - 1 - k)), (6, .int .u64 ((l.length * 8 / 256 ^ k : Nat) : Int))])
    (fun k w' => k ≤ 8 ∧ St w0 w' M [(b14, .cells (bs (Sha.padK l k)) 5 (0, 0))]) (fun k => 8 - k) 0 ⟨rfl, i64c (by omega), rfl, trivial⟩ ⟨by omega, hS⟩ ?_
  rintro k w1 ⟨hk, hS⟩
  refine CW.seq ?_
  refine CW.seq ?_
  refine CW.region ?_
  refine WL.step rfl (Stp.res rfl rfl (Res.move rfl rfl) ?_)
  refine WL.step rfl (Stp.res rfl rfl (Res.gtr rfl rfl rfl) ?_)
  refine WL.nil (Thn_n ?_)
  refine CW.ite rfl (fun h => ?_) (fun h => ?_)
  · have hk8 : k < 8 := Sha.lt8 (x := l.length * 8) (by omega) (by omega) hk
    refine CW.skip (Thn_n ?_)
    refine CW.seq ?_
    refine CW.block ?_
    refine CW.region ?_
    refine WL.step rfl (Stp.res rfl rfl (Res.move rfl rfl) ?_)
    refine WL.step rfl (Stp.res rfl rfl (Res.move rfl rfl) ?_)
    refine WL.step rfl (Stp.res rfl rfl (Res.move rfl rfl) ?_)
    refine WL.step rfl (Stp.res rfl rfl (Res.convB (k := l.length * 8 / 256 ^ k) rfl rfl underlying124 underlying5) ?_)
    refine WL.step rfl (Stp.res rfl rfl (Res.idxS0 (k := Sha.padN l.length - 1 - k) rfl rfl rfl underlying30 sz5 (by omega) (by omega)) ?_)
    refine WL.step rfl (Stp.storeB 0 rfl rfl rfl sz5 rfl hS rfl (by rw [Sha.padK_length l hk]; omega) ?_)
    intro w hS hpt
    rw [Sha.padK_step l hk8] at hS
    refine WL.nil (Blk_n (Thn_n ?_))
    refine CW.region ?_
    refine WL.step rfl (Stp.res rfl rfl (Res.move rfl rfl) ?_)
    refine WL.step rfl (Stp.res rfl rfl (Res.sub rfl rfl rfl (by omega)) ?_)
    refine WL.step rfl (Stp.res rfl rfl (Res.move rfl rfl) ?_)
    refine WL.step rfl (Stp.res rfl rfl (Res.shrU (a := l.length * 8 / 256 ^ k) (s := 8) rfl rfl rfl (by decide)) ?_)
    refine WL.step rfl (Stp.res rfl rfl (Res.assign rfl rfl) ?_)
    refine WL.step rfl (Stp.res rfl rfl (Res.assign rfl rfl) ?_)
    refine WL.nil (Thn_n ?_)
    exact ⟨k + 1, ⟨rfl, i64c (by omega), by rw [← Sha.shift8]; rfl, trivial⟩, ⟨by omega, hS⟩, by omega⟩
  · have hz : l.length * 8 / 256 ^ k = 0 := Nat.eq_zero_of_not_pos fun h2 => h (Int.ofNat_lt.2 h2)
    rw [Sha.padK_all l hk hz] at hS
    refine CW.exit (Thn_x (Thn_x (Blk_x (Thn_n ?_))))
    refine CW.seq ?_
    refine CW.region ?_
    refine WL.step rfl (Stp.res rfl rfl (Res.move rfl rfl) ?_)
    refine WL.step rfl (Stp.res rfl rfl (Res.assign rfl rfl) ?_)
    refine WL.nil (Thn_n ?_)
    refine CW.ret ?_
    have hF := hS.freeze (i := 0) rfl hb14
    exact fq_tmp rfl rfl ⟨_, hF.1, hF.2, Fresh.add _ hb14, Bs.of' (PH.add_self _ _ _) (Sha.pad_length l) (by omega)⟩
end Go.Proofs.YtcmgimicdcchlaaGreatDoor
set_option linter.unusedVariables false
set_option maxRecDepth 20000
namespace Go.Proofs.YtcmgimicdcchlaaGreatDoor
open Go.Proofs.Tryz
open Go Go.E
theorem sum_ok (v : Value) (l : List UInt8) (w0 : World) (M : PH) (hM : On M w0) (hgl : GL M) (hv : Bs M v l) (hlen : l.length ≤ 1099511627776) : Ok Tryz.prog 162 #[v] w0 M (fun M' r => M = M' ∧ r = .agg (bs (Sha.sum l))) := by
  have hS := hM.st
  have hN := Sha.padN_ge l.length
  have hPl := Sha.pad_length l
  refine enterB (l := [v]) 55 func162 rfl ntmps162 rfl ?_
  refine CW.seq ?_
  refine CW.region ?_
  refine WL.step rfl (Stp.alloc (cs := bs (List.replicate 32 0)) rfl z143 rfl rfl rfl hS ?_)
  intro b2 w hb2 hS hkp hnw
  refine WL.nil (Thn_n ?_)
  refine CW.seq ?_
  refine CW.region ?_
  refine WL.step rfl (Stp.callG (args := []) rfl rfl rfl cal170 rfl rfl hS (first_ok _ _ hS.on) ?_)
  rintro _ w _ hS _ ⟨rfl, rfl⟩
  refine WL.step rfl (Stp.alloc (cs := ws32 (List.replicate 8 0)) rfl z224 rfl rfl rfl hS ?_)
  intro b3 w hb3 hS hkp hnw
  refine WL.step rfl (Stp.storeAllW32 0 rfl rfl rfl sz224 rfl hS rfl ⟨List.length_replicate .., rfl⟩ ?_)
  intro w hS hpt
  refine WL.nil (Thn_n ?_)
  refine CW.seq ?_
  refine CW.seq ?_
  refine CW.region ?_
  refine WL.step rfl (Stp.res rfl rfl (Res.move rfl rfl) ?_)
  refine WL.step rfl (Stp.callG (args := [_]) rfl rfl rfl cal171 rfl rfl hS (pad_ok _ l _ _ hS.on hv hlen) ?_)
  rintro _ w MP hS hGP hvP
  have hgl := hgl.mono hGP.1
  refine WL.step rfl (Stp.res rfl rfl (Res.assign rfl rfl) ?_)
  refine WL.nil (Thn_n ?_)
  refine CW.block ?_
  refine CW.loop (σ := Nat × Value) (fun s => [(2, .pointer (some ⟨b2, 0, none⟩)), (3, .pointer (some ⟨b3, 0, none⟩)), (4, s.2)])
    (fun s w' => 64 * s.1 ≤ Sha.padN l.length ∧ St w0 w' MP [(b3, .cells (ws32 (Sha.digest Sha.first (Sha.pad l) s.1)) 224 (0, 0)), (b2, .cells (bs (List.replicate 32 0)) 143 (0, 0))] ∧ Bs MP s.2 ((Sha.pad l).drop (64 * s.1))) (fun s => Sha.padN l.length - 64 * s.1) (0, _) ⟨rfl, rfl, rfl, trivial⟩ ⟨by dsimp only; omega, hS, hvP⟩ ?_
  rintro ⟨k, vk⟩ w1 ⟨hk, hS, hvk⟩
  dsimp only at hk hS hvk ⊢
  have hvk0 := hvk
  obtain ⟨ka, kc, rfl, k1, k2, k3, k4⟩ := hvk
  have hvk := hvk0
  refine CW.seq ?_
  refine CW.seq ?_
  refine CW.region ?_
  refine WL.step rfl (Stp.res rfl rfl (Res.move rfl rfl) ?_)
  refine WL.step rfl (Stp.res rfl rfl (Res.len rfl rfl rfl rfl underlying30) ?_)
  refine WL.step rfl (Stp.res rfl rfl (Res.gtr rfl rfl rfl) ?_)
  refine WL.nil (Thn_n ?_)
  refine CW.ite rfl (fun h => ?_) (fun h => ?_)
  · have hlt : 64 * k + 64 ≤ Sha.padN l.length := by rw [List.length_drop, hPl] at h; omega
    obtain ⟨pb, po, pc, hve, p1, p2, pcell⟩ := hvk.at (by rw [List.length_drop, hPl]; omega)
    obtain ⟨rfl, _, rfl⟩ : ka = some ⟨pb, po, none⟩ ∧ True ∧ kc = pc := by simp only [Value.slice.injEq] at hve; exact ⟨hve.1, trivial, hve.2.2⟩
    refine CW.skip (Thn_n ?_)
    refine CW.seq ?_
    refine CW.block ?_
    have hS := hS.drew
    refine CW.tail 5 mixed (by kernel_rfl) ?_
    refine SL.step rfl rfl rfl (Res.loadAll rfl rfl underlying224 rfl (by rw [size_ws32, Sha.digest_length rfl]; exact sz224) (hS.get (i := 0) rfl)) ?_
    refine SL.step rfl rfl rfl (Res.move rfl rfl) ?_
    refine SL.step rfl rfl rfl (Res.sliceHi (h := 64) rfl rfl rfl underlying30 sz5 (by rw [List.length_drop, hPl] at p1; omega)) ?_
    refine SL.step rfl rfl rfl (Res.s2a rfl rfl underlying222 (by omega)) ?_
    refine SL.step rfl rfl rfl (Res.loadNB (l := ((Sha.pad l).drop (64 * k)).take 64) rfl rfl underlying222 rfl sz222 (by rw [List.length_take, List.length_drop, hPl]; omega) (fun j hj => by rw [Sha.take_getD hj]; exact hS.cell (pcell j (by rw [List.length_drop, hPl]; omega)))) ?_
    refine SL.nil ?_
    refine WL.step rfl (Stp.callG (args := [_, _]) rfl rfl rfl cal172 rfl rfl hS (block_ok _ _ _ _ hS.on hgl (Sha.digest_length rfl _ _) (by rw [List.length_take, List.length_drop, hPl]; omega)) ?_)
    rintro _ w _ hS _ ⟨rfl, rfl⟩
    refine WL.step rfl (Stp.storeAllW32 0 rfl rfl rfl sz224 rfl hS rfl ⟨Sha.digest_length rfl _ _, by rw [Sha.block_length, Sha.digest_length rfl]⟩ ?_)
    intro w hS hpt
    refine WL.nil (Blk_n (Thn_n ?_))
    refine CW.region ?_
    refine WL.step rfl (Stp.res rfl rfl (Res.move rfl rfl) ?_)
    refine WL.step rfl (Stp.res rfl rfl (Res.sliceLo (l := 64) rfl rfl rfl underlying30 sz5 (by rw [List.length_drop, hPl]; omega)) ?_)
    refine WL.step rfl (Stp.res rfl rfl (Res.assign rfl rfl) ?_)
    refine WL.nil (Thn_n ?_)
    have hd := hvk.drop (k := 64) (by rw [List.length_drop, hPl]; omega)
    rw [List.drop_drop] at hd
    exact ⟨(k + 1, _), ⟨rfl, rfl, rfl, trivial⟩, ⟨by dsimp only; omega, hS, hd⟩, by dsimp only; omega⟩
  · have hkN : k = Sha.padN l.length / 64 := by rw [List.length_drop, hPl] at h; omega
    subst hkN
    refine CW.exit (Thn_x (Thn_x (Blk_x (Thn_n ?_))))
    refine CW.seq ?_
    generalize hD : Sha.digest Sha.first (Sha.pad l) (Sha.padN l.length / 64) = D at hS
    refine CW.region ?_
    refine WL.step rfl (Stp.alloc (cs := bs (List.replicate 32 0)) rfl z143 rfl rfl rfl hS ?_)
    intro b5 w hb5 hS hkp hnw
    refine WL.nil (Thn_n ?_)
    refine CW.seq ?_
    refine CW.seq ?_
    have hDl : D.length = 8 := by rw [← hD]; exact Sha.digest_length rfl _ _
    refine CW.region ?_
    refine WL.step rfl (Stp.res rfl rfl (Res.loadAll rfl rfl underlying224 rfl (by rw [size_ws32, hDl]; exact sz224) (hS.get (i := 1) rfl)) ?_)
    refine WL.step rfl (Stp.res rfl rfl (Res.move rfl rfl) ?_)
    refine WL.nil (Thn_n ?_)
    refine CW.block ?_
    have hDl : D.length = 8 := by rw [← hD]; exact Sha.digest_length rfl _ _
    refine CW.loop (σ := Nat) (fun i => [(2, .pointer (some ⟨b2, 0, none⟩)), (5, .pointer (some ⟨b5, 0, none⟩)), (22, .agg (ws32 D)), (23, .int .i64 (i : Int))])
      (fun i w' => i ≤ 8 ∧ St w0 w' MP [(b5, .cells (bs (Aes.upTo (4 * i) (Sha.outByte D) (List.replicate 32 0))) 143 (0, 0)), (b3, .cells (ws32 (D)) 224 (0, 0)), (b2, .cells (bs (List.replicate 32 0)) 143 (0, 0))]) (fun i => 8 - i) 0 ⟨rfl, rfl, rfl, rfl, trivial⟩ ⟨by omega, by rw [Nat.mul_zero, Aes.upTo_zero]; exact hS⟩ ?_
    rintro i w2 ⟨hi, hS⟩
    refine CW.seq ?_
    refine CW.region ?_
    refine WL.step rfl (Stp.res rfl rfl (Res.lss rfl rfl rfl) ?_)
    refine WL.nil (Thn_n ?_)
    refine CW.seq ?_
    refine CW.ite rfl (fun h2 => ?_) (fun h2 => ?_)
    · have hlt : i < 8 := by omega
      refine CW.skip (Thn_n ?_)
      refine CW.seq ?_
      refine CW.block ?_
      refine CW.seq ?_
      refine CW.region ?_
      refine WL.step rfl (Stp.res rfl rfl (Res.move rfl rfl) ?_)
      refine WL.step rfl (Stp.res rfl rfl (Res.index1 (v := w32 (D.getD i 0)) rfl rfl rfl underlying224 sz223 underlying223 rfl (Int.toNat_natCast _) (by omega) (ws32_get (by omega))) ?_)
      refine WL.step rfl (Stp.res rfl rfl (Res.assign rfl rfl) ?_)
      refine WL.step rfl (Stp.res rfl rfl (Res.assign rfl rfl) ?_)
      refine WL.nil (Thn_n ?_)
      refine CW.region ?_
      refine WL.step rfl (Stp.res rfl rfl (Res.move rfl rfl) ?_)
      refine WL.step rfl (Stp.res rfl rfl (Res.mul rfl rfl rfl (by omega)) ?_)
      refine WL.step rfl (Stp.res rfl rfl (Res.move rfl rfl) ?_)
      refine WL.step rfl (Stp.res rfl rfl (Res.mul rfl rfl rfl (by omega)) ?_)
      refine WL.step rfl (Stp.res rfl rfl (Res.add rfl rfl rfl (by omega)) ?_)
      refine WL.step rfl (Stp.res rfl rfl (Res.move rfl rfl) ?_)
      refine WL.step rfl (Stp.res rfl rfl (Res.mul rfl rfl rfl (by omega)) ?_)
      refine WL.step rfl (Stp.res rfl rfl (Res.add rfl rfl rfl (by omega)) ?_)
      refine WL.step rfl (Stp.res rfl rfl (Res.move rfl rfl) ?_)
      refine WL.step rfl (Stp.res rfl rfl (Res.mul rfl rfl rfl (by omega)) ?_)
      refine WL.step rfl (Stp.res rfl rfl (Res.add rfl rfl rfl (by omega)) ?_)
      refine WL.step rfl (Stp.res rfl rfl (Res.move rfl rfl) ?_)
      refine WL.step rfl (Stp.res rfl rfl (Res.shrU (a := (D.getD i 0).toNat) (s := 24) rfl rfl rfl (by decide)) ?_)
      refine WL.step rfl (Stp.res rfl rfl (Res.convB (k := (D.getD i 0).toNat / 2 ^ 24) rfl rfl underlying223 underlying5) ?_)
      refine WL.step rfl (Stp.res rfl rfl (Res.move rfl rfl) ?_)
      refine WL.step rfl (Stp.res rfl rfl (Res.shrU (a := (D.getD i 0).toNat) (s := 16) rfl rfl rfl (by decide)) ?_)
      refine WL.step rfl (Stp.res rfl rfl (Res.convB (k := (D.getD i 0).toNat / 2 ^ 16) rfl rfl underlying223 underlying5) ?_)
      refine WL.step rfl (Stp.res rfl rfl (Res.move rfl rfl) ?_)
      refine WL.step rfl (Stp.res rfl rfl (Res.shrU (a := (D.getD i 0).toNat) (s := 8) rfl rfl rfl (by decide)) ?_)
      refine WL.step rfl (Stp.res rfl rfl (Res.convB (k := (D.getD i 0).toNat / 2 ^ 8) rfl rfl underlying223 underlying5) ?_)
      refine WL.step rfl (Stp.res rfl rfl (Res.move rfl rfl) ?_)
      refine WL.step rfl (Stp.res rfl rfl (Res.convB (k := (D.getD i 0).toNat) rfl rfl underlying223 underlying5) ?_)
      refine WL.step rfl (Stp.res rfl rfl (Res.idxA0 (k := 4 * i) rfl rfl rfl underlying143 sz5 (by omega) (by omega)) ?_)
      refine WL.step rfl (Stp.storeB 0 rfl rfl rfl sz5 rfl hS rfl (by simp; omega) ?_)
      intro w hS hpt
      rw [Sha.out0, Aes.upTo_set] at hS
      refine WL.step rfl (Stp.res rfl rfl (Res.idxA0 (k := 4 * i + 1) rfl rfl rfl underlying143 sz5 (by omega) (by omega)) ?_)
      refine WL.step rfl (Stp.storeB 0 rfl rfl rfl sz5 rfl hS rfl (by simp; omega) ?_)
      intro w hS hpt
      rw [Sha.out1, Aes.upTo_set] at hS
      refine WL.step rfl (Stp.res rfl rfl (Res.idxA0 (k := 4 * i + 2) rfl rfl rfl underlying143 sz5 (by omega) (by omega)) ?_)
      refine WL.step rfl (Stp.storeB 0 rfl rfl rfl sz5 rfl hS rfl (by simp; omega) ?_)
      intro w hS hpt
      rw [Sha.out2, Aes.upTo_set] at hS
      refine WL.step rfl (Stp.res rfl rfl (Res.idxA0 (k := 4 * i + 3) rfl rfl rfl underlying143 sz5 (by omega) (by omega)) ?_)
      refine WL.step rfl (Stp.storeB 0 rfl rfl rfl sz5 rfl hS rfl (by simp; omega) ?_)
      intro w hS hpt
      rw [Sha.out3, Aes.upTo_set] at hS
      refine WL.nil (Blk_n (Thn_n ?_))
      refine CW.region ?_
      refine WL.step rfl (Stp.res rfl rfl (Res.add rfl rfl rfl (by omega)) ?_)
      refine WL.step rfl (Stp.res rfl rfl (Res.move rfl rfl) ?_)
      refine WL.nil (Thn_n ?_)
      exact ⟨i + 1, ⟨rfl, rfl, rfl, rfl, trivial⟩, ⟨by omega, hS⟩, by omega⟩
    · obtain rfl : i = 8 := by omega
      refine CW.exit (Thn_x (Thn_x (Blk_x (Thn_n ?_))))
      refine CW.seq ?_
      rw [show 4 * 8 = 32 from rfl, Aes.upTo_all _ _ 32 (List.length_replicate ..)] at hS
      change St w0 w2 MP [(b5, .cells (bs (Sha.out D)) 143 (0, 0)), (b3, .cells (ws32 (D)) 224 (0, 0)), (b2, .cells (bs (List.replicate 32 0)) 143 (0, 0))] at hS
      refine CW.region ?_
      refine WL.step rfl (Stp.res rfl rfl (Res.loadAll rfl rfl underlying143 rfl (by rw [size_bs, Sha.out_length]; exact sz143) (hS.get (i := 0) rfl)) ?_)
      refine WL.step rfl (Stp.storeAllB 2 rfl rfl rfl sz143 rfl hS rfl ⟨List.length_replicate .., Sha.out_length _⟩ ?_)
      intro w hS hpt
      refine WL.nil (Thn_n ?_)
      refine CW.ret ?_
      exact fq_cell rfl rfl (hS.get (i := 2) rfl) underlying143 rfl (by rw [size_bs, Sha.out_length]; exact sz143) ⟨M, (((hS.drop (i := 0) rfl hb5).drop (i := 0) rfl hb3).drop (i := 0) rfl hb2).known hGP.1, PH.le.refl _, Fresh.refl _ _, rfl, by rw [Sha.sum, hD]⟩
end Go.Proofs.YtcmgimicdcchlaaGreatDoor
set_option linter.unusedVariables false
set_option maxRecDepth 20000
namespace Go.Proofs.YtcmgimicdcchlaaGreatDoor
open Go.Proofs.Tryz
open Go Go.E
theorem sz30 : (Tryz.prog.info? 30).map (·.size) = some 1 := by kernel_rfl
theorem z222 : (Tryz.prog.info? 222).map (·.zero) = some (some (.agg (bs (List.replicate 64 0)))) := by kernel_rfl
theorem cal104 : Callable Tryz.prog 104 := ⟨Tryz.f104, func104, rfl, by kernel_rfl⟩
theorem cal141 : Callable Tryz.prog 141 := ⟨Tryz.f141, func141, rfl, by kernel_rfl⟩
theorem cal142 : Callable Tryz.prog 142 := ⟨Tryz.f142, func142, rfl, by kernel_rfl⟩
theorem cal162 : Callable Tryz.prog 162 := ⟨Tryz.f162, func162, rfl, by kernel_rfl⟩
end Go.Proofs.YtcmgimicdcchlaaGreatDoor
set_option linter.unusedVariables false
set_option maxRecDepth 20000
namespace Go.Proofs.YtcmgimicdcchlaaGreatDoor
open Go.Proofs.Tryz
open Go Go.E
theorem padded_ok (v : Value) (key : List UInt8) (x : UInt8) (w0 : World) (M : PH) (hM : On M w0) (hgl : GL M) (hv : Bs M v key) (hlen : key.length ≤ 1099511627776) : Ok Tryz.prog 142 #[v, byte x] w0 M (fun M' r => Bs M' r (Mac.padded key x)) := by
  have hS := hM.st
  have hv0 := hv
  obtain ⟨va, vc, rfl, v1, v2, v3, v4⟩ := hv
  have hfl := Mac.fill_length (Mac.hkey_le key)
  refine enterB (l := [.slice va key.length vc, byte x]) 29 func142 rfl ntmps142 rfl ?_
  refine CW.seq ?_
  refine CW.region ?_
  refine WL.step rfl (Stp.res rfl rfl (Res.assign rfl rfl) ?_)
  refine WL.nil (Thn_n ?_)
  refine CW.seq ?_
  refine CW.region ?_
  refine WL.step rfl (Stp.alloc (cs := bs (List.replicate 64 0)) rfl z222 rfl rfl rfl hS ?_)
  intro b5 w hb5 hS hkp hnw
  refine WL.nil (Thn_n ?_)
  refine CW.seq ?_
  refine CW.block ?_
  refine CW.seq ?_
  refine CW.block ?_
  refine CW.seq ?_
  refine CW.block ?_
  refine CW.seq ?_
  refine CW.seq ?_
  refine CW.region ?_
  refine WL.step rfl (Stp.res rfl rfl (Res.move rfl rfl) ?_)
  refine WL.step rfl (Stp.res rfl rfl (Res.len rfl rfl rfl rfl underlying30) ?_)
  refine WL.step rfl (Stp.res rfl rfl (Res.gtr rfl rfl rfl) ?_)
  refine WL.step rfl (Stp.res rfl rfl (Res.assign rfl rfl) ?_)
  refine WL.nil (Thn_n ?_)
  refine CW.ite rfl (fun h => ?_) (fun h => ?_)
  · have hlong : key.length > 64 := by omega
    refine CW.exit (Thn_x (Blk_x (Thn_n ?_)))
    refine CW.seq ?_
    refine CW.region ?_
    refine WL.step rfl (Stp.res rfl rfl (Res.move rfl rfl) ?_)
    refine WL.step rfl (Stp.callG (args := [_]) rfl rfl rfl cal162 rfl rfl hS (sum_ok _ key _ _ hS.on hgl hv0 hlen) ?_)
    rintro _ w _ hS _ ⟨rfl, rfl⟩
    refine WL.step rfl (Stp.alloc (cs := bs (List.replicate 32 0)) rfl z143 rfl rfl rfl hS ?_)
    intro b6 w hb6 hS hkp hnw
    refine WL.step rfl (Stp.storeAllB 0 rfl rfl rfl sz143 rfl hS rfl ⟨List.length_replicate .., Sha.sum_length _⟩ ?_)
    intro w hS hpt
    refine WL.nil (Thn_n ?_)
    have hF := hS.freezeG (i := 0) rfl hb6
    obtain ⟨MX, hGX, hX, hS⟩ : ∃ MX, Grow w0.heap.size M MX ∧ Bs MX (.slice (some ⟨b6, 0, none⟩) 32 32) (Mac.hkey key) ∧ St w0 w MX [(b5, .cells (bs (List.replicate 64 0)) 222 (0, 0))] := ⟨_, hF.2, by rw [Mac.hkey, if_pos hlong]; exact Bs.of' (PH.add_self _ _ _) (Sha.sum_length _) (by omega), hF.1⟩
    refine CW.region ?_
    refine WL.step rfl (Stp.res rfl rfl (Res.sliceA rfl rfl underlying143 (by decide) sz5) ?_)
    refine WL.step rfl (Stp.res rfl rfl (Res.assign rfl rfl) ?_)
    refine WL.nil (Blk_n (Thn_n ?_))
    refine CW.seq ?_
    refine CW.region ?_
    refine WL.step rfl (Stp.res rfl rfl (Res.sliceA rfl rfl underlying222 (by decide) sz5) ?_)
    refine WL.step rfl (Stp.res rfl rfl (Res.move rfl rfl) ?_)
    refine WL.step rfl (Stp.copyB 0 rfl rfl rfl rfl underlying30 sz5 rfl rfl hS rfl hX (by rw [List.length_replicate]; omega) ?_)
    intro w hS hpt
    refine WL.nil (Thn_n ?_)
    refine CW.exit (Blk_x (Thn_n ?_))
    refine CW.seq ?_
    refine CW.seq ?_
    refine CW.region ?_
    refine WL.step rfl (Stp.res rfl rfl (Res.move rfl rfl) ?_)
    refine WL.nil (Thn_n ?_)
    refine CW.block ?_
    rw [Mac.copy64 (Mac.hkey_le key)] at hS
    refine CW.loop (σ := Nat) (fun i => [(1, byte x), (5, .pointer (some ⟨b5, 0, none⟩)), (18, .int .i64 (i : Int))])
      (fun i w' => i ≤ 64 ∧ St w0 w' MX [(b5, .cells (bs (Aes.upTo i (fun j => (Mac.fill (Mac.hkey key)).getD j 0 ^^^ x) (Mac.fill (Mac.hkey key)))) 222 (0, 0))]) (fun i => 64 - i) 0 ⟨rfl, rfl, rfl, trivial⟩ ⟨by omega, by rw [Aes.upTo_zero]; exact hS⟩ ?_
    rintro i w2 ⟨hi, hS⟩
    refine CW.seq ?_
    refine CW.region ?_
    refine WL.step rfl (Stp.res rfl rfl (Res.lss rfl rfl rfl) ?_)
    refine WL.nil (Thn_n ?_)
    refine CW.seq ?_
    refine CW.ite rfl (fun h2 => ?_) (fun h2 => ?_)
    · have hlt : i < 64 := by omega
      refine CW.skip (Thn_n ?_)
      refine CW.seq ?_
      refine CW.block ?_
      refine CW.seq ?_
      refine CW.region ?_
      refine WL.step rfl (Stp.res rfl rfl (Res.move rfl rfl) ?_)
      refine WL.step rfl (Stp.res rfl rfl (Res.assign rfl rfl) ?_)
      refine WL.nil (Thn_n ?_)
      refine CW.region ?_
      refine WL.step rfl (Stp.res rfl rfl (Res.move rfl rfl) ?_)
      first | refine WL.step rfl (Stp.res rfl rfl (Res.idxA0 rfl rfl rfl underlying222 sz5 (by first | exact Int.toNat_natCast _ | rfl) (by omega)) ?_) | refine WL.step rfl (Stp.res rfl rfl (Res.idxA1 rfl rfl rfl underlying222 sz5 (by first | exact Int.toNat_natCast _ | rfl) (by omega)) ?_)
      refine WL.step rfl (Stp.res rfl rfl (Res.load1 (v := byte ((Mac.fill (Mac.hkey key)).getD i 0)) rfl rfl underlying5 rfl (hS.ocell (i := 0) rfl (by rw [bs_get (by rw [Aes.upTo_length, hfl]; omega), Aes.upTo_getD _ _ _ _ (by omega), if_neg (by omega)]))) ?_)
      refine WL.step rfl (Stp.res rfl rfl (Res.move rfl rfl) ?_)
      refine WL.step rfl (Stp.res rfl rfl (Res.xorB _ rfl rfl rfl) ?_)
      first | refine WL.step rfl (Stp.res rfl rfl (Res.idxA0 rfl rfl rfl underlying222 sz5 (by first | exact Int.toNat_natCast _ | rfl) (by omega)) ?_) | refine WL.step rfl (Stp.res rfl rfl (Res.idxA1 rfl rfl rfl underlying222 sz5 (by first | exact Int.toNat_natCast _ | rfl) (by omega)) ?_)
      refine WL.step rfl (Stp.storeB 0 rfl rfl rfl sz5 rfl hS rfl (by rw [Aes.upTo_length, hfl]; omega) ?_)
      intro w hS hpt
      refine WL.nil (Blk_n (Thn_n ?_))
      refine CW.region ?_
      refine WL.step rfl (Stp.res rfl rfl (Res.add rfl rfl rfl (by omega)) ?_)
      refine WL.step rfl (Stp.res rfl rfl (Res.move rfl rfl) ?_)
      refine WL.nil (Thn_n ?_)
      refine ⟨i + 1, ⟨rfl, rfl, rfl, trivial⟩, ⟨by omega, ?_⟩, by omega⟩
      rw [← Aes.upTo_set]
      exact hS
    · obtain rfl : i = 64 := by omega
      refine CW.exit (Thn_x (Thn_x (Blk_x (Thn_n ?_))))
      refine CW.seq ?_
      refine CW.region ?_
      refine WL.step rfl (Stp.res rfl rfl (Res.sliceA rfl rfl underlying222 (by decide) sz5) ?_)
      refine WL.step rfl (Stp.res rfl rfl (Res.assign rfl rfl) ?_)
      refine WL.nil (Thn_n ?_)
      refine CW.ret ?_
      rw [Aes.upTo_all _ _ 64 hfl] at hS
      have hF := hS.freezeG (i := 0) rfl hb5
      exact fq_tmp rfl rfl ⟨_, hF.1, (hGX.trans hF.2).1, (hGX.trans hF.2).2, Bs.of' (PH.add_self _ _ _) (Mac.padded_length key x) (by omega)⟩
  · have hshort : ¬ key.length > 64 := by omega
    obtain ⟨MX, hGX, hX, hS⟩ : ∃ MX, Grow w0.heap.size M MX ∧ Bs MX (.slice va key.length vc) (Mac.hkey key) ∧ St w0 w MX [(b5, .cells (bs (List.replicate 64 0)) 222 (0, 0))] := ⟨M, Grow.refl _ _, by rw [Mac.hkey, if_neg hshort]; exact hv0, hS⟩
    refine CW.skip (Thn_n ?_)
    refine CW.exit (Blk_y rfl (Thn_x (Blk_x (Thn_n ?_))))
    refine CW.seq ?_
    refine CW.region ?_
    refine WL.step rfl (Stp.res rfl rfl (Res.sliceA rfl rfl underlying222 (by decide) sz5) ?_)
    refine WL.step rfl (Stp.res rfl rfl (Res.move rfl rfl) ?_)
    refine WL.step rfl (Stp.copyB 0 rfl rfl rfl rfl underlying30 sz5 rfl rfl hS rfl hX (by rw [List.length_replicate]; omega) ?_)
    intro w hS hpt
    refine WL.nil (Thn_n ?_)
    refine CW.exit (Blk_x (Thn_n ?_))
    refine CW.seq ?_
    refine CW.seq ?_
    refine CW.region ?_
    refine WL.step rfl (Stp.res rfl rfl (Res.move rfl rfl) ?_)
    refine WL.nil (Thn_n ?_)
    refine CW.block ?_
    rw [Mac.copy64 (Mac.hkey_le key)] at hS
    refine CW.loop (σ := Nat) (fun i => [(1, byte x), (5, .pointer (some ⟨b5, 0, none⟩)), (18, .int .i64 (i : Int))])
      (fun i w' => i ≤ 64 ∧ St w0 w' MX [(b5, .cells (bs (Aes.upTo i (fun j => (Mac.fill (Mac.hkey key)).getD j 0 ^^^ x) (Mac.fill (Mac.hkey key)))) 222 (0, 0))]) (fun i => 64 - i) 0 ⟨rfl, rfl, rfl, trivial⟩ ⟨by omega, by rw [Aes.upTo_zero]; exact hS⟩ ?_
    rintro i w2 ⟨hi, hS⟩
    refine CW.seq ?_
    refine CW.region ?_
    refine WL.step rfl (Stp.res rfl rfl (Res.lss rfl rfl rfl) ?_)
    refine WL.nil (Thn_n ?_)
    refine CW.seq ?_
    refine CW.ite rfl (fun h2 => ?_) (fun h2 => ?_)
    · have hlt : i < 64 := by omega
      refine CW.skip (Thn_n ?_)
      refine CW.seq ?_
      refine CW.block ?_
      refine CW.seq ?_
      refine CW.region ?_
      refine WL.step rfl (Stp.res rfl rfl (Res.move rfl rfl) ?_)
      refine WL.step rfl (Stp.res rfl rfl (Res.assign rfl rfl) ?_)
      refine WL.nil (Thn_n ?_)
      refine CW.region ?_
      refine WL.step rfl (Stp.res rfl rfl (Res.move rfl rfl) ?_)
      first | refine WL.step rfl (Stp.res rfl rfl (Res.idxA0 rfl rfl rfl underlying222 sz5 (by first | exact Int.toNat_natCast _ | rfl) (by omega)) ?_) | refine WL.step rfl (Stp.res rfl rfl (Res.idxA1 rfl rfl rfl underlying222 sz5 (by first | exact Int.toNat_natCast _ | rfl) (by omega)) ?_)
      refine WL.step rfl (Stp.res rfl rfl (Res.load1 (v := byte ((Mac.fill (Mac.hkey key)).getD i 0)) rfl rfl underlying5 rfl (hS.ocell (i := 0) rfl (by rw [bs_get (by rw [Aes.upTo_length, hfl]; omega), Aes.upTo_getD _ _ _ _ (by omega), if_neg (by omega)]))) ?_)
      refine WL.step rfl (Stp.res rfl rfl (Res.move rfl rfl) ?_)
      refine WL.step rfl (Stp.res rfl rfl (Res.xorB _ rfl rfl rfl) ?_)
      first | refine WL.step rfl (Stp.res rfl rfl (Res.idxA0 rfl rfl rfl underlying222 sz5 (by first | exact Int.toNat_natCast _ | rfl) (by omega)) ?_) | refine WL.step rfl (Stp.res rfl rfl (Res.idxA1 rfl rfl rfl underlying222 sz5 (by first | exact Int.toNat_natCast _ | rfl) (by omega)) ?_)
      refine WL.step rfl (Stp.storeB 0 rfl rfl rfl sz5 rfl hS rfl (by rw [Aes.upTo_length, hfl]; omega) ?_)
      intro w hS hpt
      refine WL.nil (Blk_n (Thn_n ?_))
      refine CW.region ?_
      refine WL.step rfl (Stp.res rfl rfl (Res.add rfl rfl rfl (by omega)) ?_)
      refine WL.step rfl (Stp.res rfl rfl (Res.move rfl rfl) ?_)
      refine WL.nil (Thn_n ?_)
      refine ⟨i + 1, ⟨rfl, rfl, rfl, trivial⟩, ⟨by omega, ?_⟩, by omega⟩
      rw [← Aes.upTo_set]
      exact hS
    · obtain rfl : i = 64 := by omega
      refine CW.exit (Thn_x (Thn_x (Blk_x (Thn_n ?_))))
      refine CW.seq ?_
      refine CW.region ?_
      refine WL.step rfl (Stp.res rfl rfl (Res.sliceA rfl rfl underlying222 (by decide) sz5) ?_)
      refine WL.step rfl (Stp.res rfl rfl (Res.assign rfl rfl) ?_)
      refine WL.nil (Thn_n ?_)
      refine CW.ret ?_
      rw [Aes.upTo_all _ _ 64 hfl] at hS
      have hF := hS.freezeG (i := 0) rfl hb5
      exact fq_tmp rfl rfl ⟨_, hF.1, (hGX.trans hF.2).1, (hGX.trans hF.2).2, Bs.of' (PH.add_self _ _ _) (Mac.padded_length key x) (by omega)⟩
theorem parts_ok (pb : Nat) (v1 v2 : Value) (l1 l2 : List UInt8) (pT : TypeId) (pf : Nat × Nat) (w0 : World) (M : PH) (hM : On M w0) (hgl : GL M) (hpb : M pb = some (.cells #[v1, v2] pT pf)) (h1 : Bs M v1 l1) (h2 : Bs M v2 l2) (hlen : l1.length + l2.length ≤ 1099511627776) : Ok Tryz.prog 141 #[.slice (some ⟨pb, 0, none⟩) 2 2] w0 M (fun M' r => M = M' ∧ r = .agg (bs (Sha.sum (l1 ++ l2)))) := by
  have hS := hM.st
  refine enterB (l := [.slice (some ⟨pb, 0, none⟩) 2 2]) 18 func141 rfl ntmps141 rfl ?_
  refine CW.seq ?_
  refine CW.region ?_
  refine WL.step rfl (Stp.alloc (cs := bs (List.replicate 32 0)) rfl z143 rfl rfl rfl hS ?_)
  intro b2 w hb2 hS hkp hnw
  refine WL.nil (Thn_n ?_)
  refine CW.seq ?_
  refine CW.region ?_
  refine WL.step rfl (Stp.res rfl rfl (Res.assign rfl rfl) ?_)
  refine WL.nil (Thn_n ?_)
  refine CW.seq ?_
  refine CW.seq ?_
  refine CW.region ?_
  refine WL.step rfl (Stp.res rfl rfl (Res.move rfl rfl) ?_)
  refine WL.step rfl (Stp.res rfl rfl (Res.len rfl rfl rfl rfl underlying94) ?_)
  refine WL.step rfl (Stp.res rfl rfl (Res.move rfl rfl) ?_)
  refine WL.nil (Thn_n ?_)
  refine CW.block ?_
  refine CW.loop (σ := Nat × Value × Owned) (fun s => [(2, .pointer (some ⟨b2, 0, none⟩)), (3, s.2.1), (6, .slice (some ⟨pb, 0, none⟩) 2 2), (7, .int .i64 2), (8, .int .i64 (s.1 : Int))])
    (fun s w' => s.1 ≤ 2 ∧ St w0 w' M (s.2.2 ++ [(b2, .cells (bs (List.replicate 32 0)) 143 (0, 0))]) ∧ OwnB w0.heap.size s.2.2 s.2.1 (Mac.pcat l1 l2 s.1) 5) (fun s => 2 - s.1) (0, _, []) ⟨rfl, rfl, rfl, rfl, rfl, trivial⟩ ⟨by dsimp only; omega, hS, OwnB.nil _ _⟩ ?_
  rintro ⟨i, v, g⟩ w1 ⟨hi, hS, hown⟩
  dsimp only at hi hS hown ⊢
  refine CW.seq ?_
  refine CW.region ?_
  refine WL.step rfl (Stp.res rfl rfl (Res.lss rfl rfl rfl) ?_)
  refine WL.nil (Thn_n ?_)
  refine CW.seq ?_
  refine CW.ite rfl (fun h => ?_) (fun h => ?_)
  · have hlt : i < 2 := by omega
    obtain ⟨vi, li, hvi, hbi, hcat⟩ : ∃ vi li, (#[v1, v2] : Array Value)[i]? = some vi ∧ Bs M vi li ∧ Mac.pcat l1 l2 i ++ li = Mac.pcat l1 l2 (i + 1) := by
      rcases (by omega : i = 0 ∨ i = 1) with rfl | rfl
      · exact ⟨v1, l1, rfl, h1, rfl⟩
      · exact ⟨v2, l2, rfl, h2, rfl⟩
    have hll := Mac.pcat_len l1 l2 (i + 1)
    have hll2 := congrArg List.length hcat
    rw [List.length_append] at hll2
    refine CW.skip (Thn_n ?_)
    refine CW.seq ?_
    refine CW.block ?_
    refine CW.seq ?_
    refine CW.region ?_
    refine WL.step rfl (Stp.res rfl rfl (Res.idxS0 (k := i) rfl rfl rfl underlying94 sz30 (Int.toNat_natCast _) (by omega)) ?_)
    refine WL.step rfl (Stp.res rfl rfl (Res.load1 (v := vi) rfl rfl underlying30 rfl (hS.cell (PH.cell_of hpb hvi))) ?_)
    refine WL.step rfl (Stp.res rfl rfl (Res.assign rfl rfl) ?_)
    refine WL.nil (Thn_n ?_)
    refine CW.region ?_
    refine WL.step rfl (Stp.res rfl rfl (Res.move rfl rfl) ?_)
    refine WL.step rfl (Stp.res rfl rfl (Res.move rfl rfl) ?_)
    refine WL.step rfl (Stp.appendB (l := Mac.pcat l1 l2 i) (r := li) rfl rfl rfl rfl et30 (Src.ofBs underlying30 hS hbi) hS hown (by omega) rfl rfl ?_)
    intro v' w g' hS hown
    rw [hcat] at hown
    refine WL.step rfl (Stp.res rfl rfl (Res.assign rfl rfl) ?_)
    refine WL.nil (Blk_n (Thn_n ?_))
    refine CW.region ?_
    refine WL.step rfl (Stp.res rfl rfl (Res.add rfl rfl rfl (by omega)) ?_)
    refine WL.step rfl (Stp.res rfl rfl (Res.move rfl rfl) ?_)
    refine WL.nil (Thn_n ?_)
    exact ⟨(i + 1, v', g'), ⟨rfl, rfl, rfl, rfl, rfl, trivial⟩, ⟨by dsimp only; omega, hS, hown⟩, by dsimp only; omega⟩
  · obtain rfl : i = 2 := by omega
    obtain ⟨M4, hS, hle4, hfr4, hv4⟩ := hown.give hS
    have hG4 : Grow w0.heap.size M M4 := ⟨hle4, hfr4⟩
    refine CW.exit (Thn_x (Thn_x (Blk_x (Thn_n ?_))))
    refine CW.seq ?_
    refine CW.region ?_
    refine WL.step rfl (Stp.res rfl rfl (Res.move rfl rfl) ?_)
    refine WL.step rfl (Stp.callG (args := [_]) rfl rfl rfl cal162 rfl rfl hS (sum_ok _ _ _ _ hS.on (hgl.mono hG4.1) hv4 (Nat.le_trans (Mac.pcat_len l1 l2 2) hlen)) ?_)
    rintro _ w _ hS _ ⟨rfl, rfl⟩
    first | refine WL.step rfl (Stp.storeAllB 0 rfl rfl rfl sz143 rfl hS rfl (by first | omega | (simp; done) | (simp; omega)) ?_) | refine WL.step rfl (Stp.storeAllB 1 rfl rfl rfl sz143 rfl hS rfl (by first | omega | (simp; done) | (simp; omega)) ?_) | refine WL.step rfl (Stp.storeAllB 2 rfl rfl rfl sz143 rfl hS rfl (by first | omega | (simp; done) | (simp; omega)) ?_)
    intro w hS hpt
    refine WL.nil (Thn_n ?_)
    refine CW.ret ?_
    exact fq_cell rfl rfl (hS.get (i := 0) rfl) underlying143 rfl (by rw [size_bs, Sha.sum_length]; exact sz143) ⟨M, (hS.drop (i := 0) rfl hb2).known hG4.1, PH.le.refl _, Fresh.refl _ _, rfl, rfl⟩
end Go.Proofs.YtcmgimicdcchlaaGreatDoor
set_option linter.unusedVariables false
set_option maxRecDepth 20000
namespace Go.Proofs.YtcmgimicdcchlaaGreatDoor
open Go.Proofs.Tryz
open Go Go.E
theorem mac_ok (kv v : Value) (key l : List UInt8) (w0 : World) (M : PH) (hM : On M w0) (hgl : GL M) (hkey : Bs M kv key) (hv : Bs M v l) (hlen : key.length ≤ 1099511627776) (hlen2 : l.length ≤ 549755813888) : Ok Tryz.prog 104 #[kv, v] w0 M (fun M' r => M = M' ∧ r = .agg (bs (Mac.sum key l))) := by
  have hS := hM.st
  have hv0 := hv
  obtain ⟨va, vc, rfl, v1, v2, v3, v4⟩ := hv
  refine enterB (l := [kv, .slice va l.length vc]) 16 func104 rfl ntmps104 rfl ?_
  refine CW.seq ?_
  refine CW.region ?_
  refine WL.step rfl (Stp.alloc (cs := bs (List.replicate 32 0)) rfl z143 rfl rfl rfl hS ?_)
  intro b4 w hb4 hS hkp hnw
  refine WL.nil (Thn_n ?_)
  refine CW.seq ?_
  refine CW.region ?_
  refine WL.step rfl (Stp.res rfl rfl (Res.move rfl rfl) ?_)
  refine WL.step rfl (Stp.callG (args := [_, byte 54]) rfl rfl rfl cal142 rfl rfl hS (padded_ok _ key _ _ _ hS.on hgl hkey hlen) ?_)
  rintro _ w MA hS hGA hA
  obtain ⟨aa, ac, rfl, a1, a2, a3, a4⟩ := id hA
  refine WL.step rfl (Stp.res rfl rfl (Res.move rfl rfl) ?_)
  refine WL.step rfl (Stp.lit (vals := [(0, .slice aa (Mac.padded key 54).length ac), (1, .slice va l.length vc)]) (cs := #[.slice aa (Mac.padded key 54).length ac, .slice va l.length vc]) (e := 30) rfl rfl (fun _ => by kernel_rfl) rfl rfl hS ?_)
  intro b9 w hb9 hS hkp hnw
  have hF := hS.freezeG (i := 0) rfl hb9
  have hS := hF.1
  refine WL.step rfl (Stp.callG (args := [_]) rfl rfl rfl cal141 rfl rfl hS (parts_ok b9 _ _ _ l _ _ _ _ hS.on (hgl.mono (hGA.trans hF.2).1) (PH.add_self _ _ _) (hA.mono hF.2.1) (hv0.mono (hGA.trans hF.2).1) (by rw [Mac.padded_length]; omega)) ?_)
  rintro _ w _ hS _ ⟨rfl, rfl⟩
  have hG2 := hF.2
  refine WL.step rfl (Stp.alloc (cs := bs (List.replicate 32 0)) rfl z143 rfl rfl rfl hS ?_)
  intro b5 w hb5 hS hkp hnw
  refine WL.step rfl (Stp.storeAllB 0 rfl rfl rfl sz143 rfl hS rfl ⟨List.length_replicate .., Sha.sum_length _⟩ ?_)
  intro w hS hpt
  refine WL.nil (Thn_n ?_)
  refine CW.seq ?_
  have hF5 := hS.freezeG (i := 0) rfl hb5
  obtain ⟨M3, hG3, h5, hS⟩ : ∃ M3, Grow w0.heap.size _ M3 ∧ Bs M3 (.slice (some ⟨b5, 0, none⟩) 32 32) (Sha.sum (Mac.padded key 54 ++ l)) ∧ St w0 w M3 [(b4, .cells (bs (List.replicate 32 0)) 143 (0, 0))] := ⟨_, hF5.2, Bs.of' (PH.add_self _ _ _) (Sha.sum_length _) (by omega), hF5.1⟩
  have hS := hS.drew
  have hK0 : True := trivial
  refine CW.held (fun _ => True) mixed ?_
  refine AL.take 0 rfl (by kernel_rfl) (by kernel_rfl) (by kernel_rfl) rfl rfl rfl hK0 (fun w hK => Res.move rfl rfl) ?_
  refine AL.take 2 rfl (by kernel_rfl) (by kernel_rfl) (by kernel_rfl) rfl rfl rfl hK0 (fun w hK => Res.sliceA rfl rfl underlying143 (by decide) sz5) ?_
  refine AL.one 1 rfl (by kernel_rfl) rfl (Stp.callG (args := [_, byte 92]) rfl rfl rfl cal142 rfl rfl hS (padded_ok _ key _ _ _ hS.on (hgl.mono (hGA.trans (hG2.trans hG3)).1) (hkey.mono (hGA.trans (hG2.trans hG3)).1) hlen) ?_)
  rintro _ w MD hS hGD hD
  obtain ⟨da, dc, rfl, d1, d2, d3, d4⟩ := id hD
  have hK0 : True := trivial
  refine ⟨hK0, ?_⟩
  refine AL.one 3 rfl (by kernel_rfl) rfl (Stp.lit (vals := [(0, .slice da (Mac.padded key 92).length dc), (1, .slice (some ⟨b5, 0, none⟩) 32 32)]) (cs := #[.slice da (Mac.padded key 92).length dc, .slice (some ⟨b5, 0, none⟩) 32 32]) (e := 30) rfl rfl (fun _ => by kernel_rfl) rfl rfl hS ?_)
  intro b14 w hb14 hS hkp hnw
  have hF := hS.freezeG (i := 0) rfl hb14
  have hS := hF.1
  have hK0 : True := trivial
  refine ⟨hK0, ?_⟩
  refine AL.one 4 rfl (by kernel_rfl) rfl (Stp.callG (args := [_]) rfl rfl rfl cal141 rfl rfl hS (parts_ok b14 _ _ _ _ _ _ _ _ hS.on (hgl.mono (((hGA.trans (hG2.trans hG3)).trans hGD).trans hF.2).1) (PH.add_self _ _ _) (hD.mono hF.2.1) (h5.mono (hGD.trans hF.2).1) (by rw [Mac.padded_length, Sha.sum_length]; omega)) ?_)
  rintro _ w _ hS _ ⟨rfl, rfl⟩
  have hK0 : True := trivial
  refine ⟨hK0, ?_⟩
  refine AL.one 5 rfl (by kernel_rfl) rfl (Stp.storeAllB 0 rfl rfl rfl sz143 rfl hS rfl ⟨List.length_replicate .., Sha.sum_length _⟩ ?_)
  intro w hS hpt
  have hK0 : True := trivial
  refine ⟨hK0, ?_⟩
  refine AL.done (by kernel_rfl) (Thn_n ?_)
  refine CW.ret ?_
  exact fq_cell rfl rfl (hS.get (i := 0) rfl) underlying143 rfl (by rw [size_bs, Sha.sum_length]; exact sz143) ⟨M, (hS.drop (i := 0) rfl hb4).known (((hGA.trans (hG2.trans hG3)).trans hGD).trans hF.2).1, PH.le.refl _, Fresh.refl _ _, rfl, rfl⟩
end Go.Proofs.YtcmgimicdcchlaaGreatDoor
set_option linter.unusedVariables false
set_option maxRecDepth 20000
namespace Go.Proofs.YtcmgimicdcchlaaGreatDoor
open Go.Proofs.Tryz
open Go Go.E
theorem expand_ok (kv : Value) (key text : List UInt8) (n : Nat) (w0 : World) (M : PH) (hM : On M w0) (hgl : GL M) (hkey : Bs M kv key) (hlen : key.length ≤ 1099511627776) (htl : text.length ≤ 65536) (hn : n ≤ 8160) : Ok Tryz.prog 105 #[kv, Go.E.str text, .int .i64 (n : Int)] w0 M (fun M' r => ∃ s, r = .tuple #[s, .int .i64 0] ∧ Bs M' s (Mac.expand key text n)) := by
  have hS := hM.st
  refine enterB (l := [kv, Go.E.str text, .int .i64 (n : Int)]) 51 func105 rfl ntmps105 rfl ?_
  refine CW.seq ?_
  refine CW.region ?_
  refine WL.step rfl (Stp.res rfl rfl (Res.assign rfl rfl) ?_)
  refine WL.step rfl (Stp.res rfl rfl (Res.assign rfl rfl) ?_)
  refine WL.nil (Thn_n ?_)
  refine CW.seq ?_
  refine CW.block ?_
  refine CW.seq ?_
  refine CW.region ?_
  refine WL.step rfl (Stp.res rfl rfl (Res.move rfl rfl) ?_)
  refine WL.step rfl (Stp.res rfl rfl (Res.lss rfl rfl rfl) ?_)
  refine WL.step rfl (Stp.res rfl rfl (Res.assign rfl rfl) ?_)
  refine WL.nil (Thn_n ?_)
  refine CW.iteF rfl (by omega) ?_
  refine CW.seq ?_
  refine CW.region ?_
  refine WL.step rfl (Stp.res rfl rfl (Res.move rfl rfl) ?_)
  refine WL.step rfl (Stp.res rfl rfl (Res.gtr rfl rfl rfl) ?_)
  refine WL.step rfl (Stp.res rfl rfl (Res.assign rfl rfl) ?_)
  refine WL.nil (Thn_n ?_)
  refine CW.iteF rfl (by omega) ?_
  refine CW.skip (Blk_n (Thn_n ?_))
  refine CW.seq ?_
  refine CW.region ?_
  refine WL.step rfl (Stp.res rfl rfl (Res.move rfl rfl) ?_)
  refine WL.step rfl (Stp.res rfl rfl (Res.cast (Res.add rfl rfl rfl (by omega)) (v' := .int .i64 ((n + 32 : Nat) : Int)) (by congr 1)) ?_)
  refine WL.step rfl (Stp.makeB (k := 0) (c := n + 32) rfl rfl rfl et30 ⟨by omega, by omega⟩ rfl rfl hS ?_)
  intro b21 w hb21 hS hkp hnw
  refine WL.step rfl (Stp.res rfl rfl (Res.assign rfl rfl) ?_)
  refine WL.nil (Thn_n ?_)
  refine CW.seq ?_
  refine CW.seq ?_
  refine CW.region ?_
  refine WL.step rfl (Stp.res rfl rfl (Res.assign (v := byte 1) rfl rfl) ?_)
  refine WL.nil (Thn_n ?_)
  refine CW.block ?_
  refine CW.loop (σ := Nat × Nat × Nat × Owned) (fun s => [(0, kv), (1, Go.E.str text), (2, .int .i64 (n : Int)), (8, .slice (some ⟨s.2.1, 0, none⟩) (Mac.exp key text s.1).length s.2.2.1), (9, byte (UInt8.ofNat (s.1 + 1)))])
    (fun s w' => 32 * s.1 < n + 32 ∧ St w0 w' M (s.2.2.2 ++ []) ∧ OwnB w0.heap.size s.2.2.2 (.slice (some ⟨s.2.1, 0, none⟩) (Mac.exp key text s.1).length s.2.2.1) (Mac.exp key text s.1) 5) (fun s => n + 32 - 32 * s.1) (0, b21, n + 32, _) ⟨rfl, rfl, rfl, rfl, rfl, trivial⟩ ⟨by dsimp only; omega, hS, OwnB.of hb21 (Nat.zero_le _) (by dsimp only; omega) [] (List.length_replicate ..) rfl⟩ ?_
  rintro ⟨k, bw, capw, g⟩ w1 ⟨hk, hS, hown⟩
  dsimp only at hk hS hown ⊢
  refine CW.seq ?_
  refine CW.seq ?_
  refine CW.region ?_
  refine WL.step rfl (Stp.res rfl rfl (Res.move rfl rfl) ?_)
  refine WL.step rfl (Stp.res rfl rfl (Res.len rfl rfl rfl rfl underlying30) ?_)
  refine WL.step rfl (Stp.res rfl rfl (Res.move rfl rfl) ?_)
  refine WL.step rfl (Stp.res rfl rfl (Res.lss rfl rfl rfl) ?_)
  refine WL.nil (Thn_n ?_)
  refine CW.ite rfl (fun h => ?_) (fun h => ?_)
  · have hlt : 32 * k < n := by rw [Mac.exp_length] at h; omega
    obtain ⟨_, hbw, hwc, hw63, cw, rfl, hcw⟩ := hown.some
    have hxl := Mac.exp_length key text k
    refine CW.skip (Thn_n ?_)
    refine CW.seq ?_
    refine CW.block ?_
    refine CW.seq ?_
    refine CW.region ?_
    refine WL.step rfl (Stp.res rfl rfl (Res.move rfl rfl) ?_)
    refine WL.step rfl (Stp.res rfl rfl (Res.move rfl rfl) ?_)
    refine WL.step rfl (Stp.res rfl rfl (Res.len rfl rfl rfl rfl underlying30) ?_)
    refine WL.step rfl (Stp.res rfl rfl (Res.sub rfl rfl rfl (by omega)) ?_)
    refine WL.step rfl (Stp.res rfl rfl (Res.cast (Res.maxI rfl rfl rfl) (v' := .int .i64 ((32 * k - 32 : Nat) : Int)) (by rw [Mac.exp_length]; congr 1; split <;> omega)) ?_)
    refine WL.step rfl (Stp.res rfl rfl (Res.sliceLo (l := 32 * k - 32) rfl rfl rfl underlying30 sz5 (by omega)) ?_)
    refine WL.step rfl (Stp.res rfl rfl (Res.assign rfl rfl) ?_)
    refine WL.nil (Thn_n ?_)
    refine CW.seq ?_
    refine CW.region ?_
    refine WL.step rfl (Stp.lit (vals := []) (cs := bs []) (e := 5) rfl rfl (fun _ => by kernel_rfl) rfl rfl hS ?_)
    intro b34 w hb34 hS hkp hnw
    refine WL.step rfl (Stp.res rfl rfl (Res.move rfl rfl) ?_)
    refine WL.step rfl (Stp.appendB (l := []) (r := (Mac.exp key text (k)).drop (32 * k - 32)) rfl rfl rfl rfl et30 (Src.drop underlying30 (by omega) hwc (fun j hj => hS.ocell (i := 1) rfl (hcw j hj))) hS (OwnB.of hb34 (Nat.le_refl 0) (by omega) [] rfl rfl) (by simp; omega) rfl rfl ?_)
    intro v1 w g1 hS hown1
    rw [List.nil_append] at hown1
    refine WL.step rfl (Stp.res rfl rfl (Res.move rfl rfl) ?_)
    refine WL.step rfl (Stp.appendB (r := text) rfl rfl rfl rfl et30 (Src.ofStr underlying9) hS hown1 (by simp; omega) rfl rfl ?_)
    intro v2 w g2 hS hown2
    refine WL.step rfl (Stp.res rfl rfl (Res.move rfl rfl) ?_)
    refine WL.step rfl (Stp.lit (vals := [(0, byte (UInt8.ofNat (k + 1)))]) (cs := bs [UInt8.ofNat (k + 1)]) (e := 5) rfl rfl (fun _ => by kernel_rfl) rfl rfl hS ?_)
    intro b40 w hb40 hS hkp hnw
    have hF := hS.freeze (i := 0) rfl hb40
    have hS := hF.1
    change St w0 w _ (g2 ++ [(bw, .cells cw 5 (0, 0))]) at hS
    refine WL.step rfl (Stp.appendB (r := [UInt8.ofNat (k + 1)]) rfl rfl rfl rfl et30 (Src.ofBs underlying30 hS (Bs.of' (PH.add_self _ _ _) rfl (by omega))) hS hown2 (by simp; omega) rfl rfl ?_)
    intro v3 w g3 hS hown3
    have hS := hS.known hF.2
    obtain ⟨M4, hS, hle4, hfr4, hv4⟩ := hown3.give hS
    refine WL.step rfl (Stp.res rfl rfl (Res.assign rfl rfl) ?_)
    refine WL.nil (Thn_n ?_)
    refine CW.seq ?_
    refine CW.region ?_
    refine WL.step rfl (Stp.res rfl rfl (Res.move rfl rfl) ?_)
    refine WL.step rfl (Stp.res rfl rfl (Res.move rfl rfl) ?_)
    refine WL.step rfl (Stp.callG (args := [_, _]) rfl rfl rfl cal104 rfl rfl hS (mac_ok _ _ key _ _ _ hS.on (hgl.mono hle4) (hkey.mono hle4) hv4 hlen (by simp; omega)) ?_)
    rintro _ w _ hS _ ⟨rfl, rfl⟩
    have hS := hS.known hle4
    have hS := hS
    refine WL.step rfl (Stp.alloc (cs := bs (List.replicate 32 0)) rfl z143 rfl rfl rfl hS ?_)
    intro b12 w hb12 hS hkp hnw
    refine WL.step rfl (Stp.storeAllB 0 rfl rfl rfl sz143 rfl hS rfl ⟨List.length_replicate .., Mac.sum_length _ _⟩ ?_)
    intro w hS hpt
    have hF := hS.freeze (i := 0) rfl hb12
    have hS := hF.1
    change St w0 w _ ([(bw, .cells cw 5 (0, 0))] ++ []) at hS
    refine WL.nil (Thn_n ?_)
    refine CW.region ?_
    refine WL.step rfl (Stp.res rfl rfl (Res.move rfl rfl) ?_)
    refine WL.step rfl (Stp.res rfl rfl (Res.sliceA rfl rfl underlying143 (by decide) sz5) ?_)
    refine WL.step rfl (Stp.appendB (l := Mac.exp key text (k)) (r := Mac.sum key ((Mac.exp key text (k)).drop (32 * k - 32) ++ text ++ [UInt8.ofNat (k + 1)])) rfl rfl rfl rfl et30 (Src.ofBs underlying30 hS (Bs.of' (PH.add_self _ _ _) (Mac.sum_length _ _) (by omega))) hS hown (by rw [Mac.sum_length]; omega) rfl rfl ?_)
    intro v5 w g5 hS hown5
    have hS := hS.known hF.2
    rw [Mac.exp_succ] at hown5
    obtain ⟨b5, cs5, cap5, hb5, rfl, rfl, hcs5⟩ := hown5.open (by rw [Mac.exp_length]; omega)
    refine WL.step rfl (Stp.res rfl rfl (Res.assign rfl rfl) ?_)
    refine WL.nil (Blk_n (Thn_n ?_))
    refine CW.region ?_
    refine WL.step rfl (Stp.res rfl rfl (Res.move rfl rfl) ?_)
    refine WL.step rfl (Stp.res rfl rfl (Res.addB 1 rfl rfl rfl) ?_)
    refine WL.step rfl (Stp.res rfl rfl (Res.assign rfl rfl) ?_)
    refine WL.nil (Thn_n ?_)
    exact ⟨(k + 1, b5, cap5, _), ⟨rfl, rfl, rfl, rfl, bytec (Mac.byte_succ k), trivial⟩, ⟨by dsimp only; omega, hS, hown5⟩, by dsimp only; omega⟩
  · have hge : n ≤ 32 * k := by rw [Mac.exp_length] at h; omega
    refine CW.exit (Thn_x (Thn_x (Blk_x (Thn_n ?_))))
    refine CW.seq ?_
    obtain ⟨_, hbw, hwc, hw63, cw, rfl, hcw⟩ := hown.some
    obtain ⟨M4, hS, hle4, hfr4, hv4⟩ := hown.give hS
    refine CW.region ?_
    refine WL.step rfl (Stp.res rfl rfl (Res.move rfl rfl) ?_)
    refine WL.step rfl (Stp.res rfl rfl (Res.move rfl rfl) ?_)
    refine WL.step rfl (Stp.res rfl rfl (Res.sliceHi (h := n) rfl rfl rfl underlying30 sz5 (by rw [Mac.exp_length] at hwc; omega)) ?_)
    refine WL.step rfl (Stp.res rfl rfl (Res.assign rfl rfl) ?_)
    refine WL.step rfl (Stp.res rfl rfl (Res.assign rfl rfl) ?_)
    refine WL.nil (Thn_n ?_)
    refine CW.ret ?_
    have hv5 := hv4.take (h := n) (by rw [Mac.exp_length]; exact hge)
    rw [Mac.exp_take hge hk] at hv5
    exact fq_tmp2 rfl rfl rfl ⟨M4, hS, hle4, hfr4, _, rfl, hv5⟩
end Go.Proofs.YtcmgimicdcchlaaGreatDoor
set_option linter.unusedVariables false
set_option maxRecDepth 20000
namespace Go.Proofs
open Go.Shelf
shelf_lay LaysM.n171 Nm 171 at Tryz as Tryz.laysM171
end Go.Proofs
namespace Go.Proofs.YtcmgimicdcchlaaGreatDoor
open Go.Proofs.Tryz
open Go Go.E Go.Sort Go.Shelf Go.RowKit
theorem grow_st {w : World} {M : PH} (h : On M w) (k : Nat) (os : Array Obj) : St w (grow (w.drewN k) os) M [] := by
  have old : ∀ i, i < w.heap.size → (grow (w.drewN k) os).heap[i]? = w.heap[i]? := fun i hi => by
    show (w.heap ++ os)[i]? = w.heap[i]?
    rw [Array.getElem?_append_left hi]
  refine ⟨rfl, rfl, rfl, ?_, fun i hi _ => old i hi, fun i o ho => ?_, fun x hx => (by cases hx), by simp⟩
  · show w.heap.size ≤ (w.heap ++ os).size
    simp
  · rw [old i (lt_of_get (h i o ho))]; exact h i o ho
theorem itoa_ok (n : Int) (w0 : World) (M : PH) (hM : On M w0) (hgl : GL M) (h0 : -9223372036854775808 ≤ n) (h1 : n ≤ 9223372036854775807) : Ok Tryz.prog 151 #[.int .i64 n] w0 M (fun M' r => M = M' ∧ r = str (Lib.itoa n)) := by
  have htab : Lib.TabIs Tryz.prog w0 "internal/strconv.uint64pow10" .u64 Lib.pow10Tab := by
    obtain ⟨_, T, fr, h⟩ := hgl
    have e : Tryz.prog.globalNamed "internal/strconv.uint64pow10" = some 2 := by kernel_rfl
    simp only [Lib.TabIs, World.var?, e, Option.bind_some, hM _ _ h]
  refine (Any.strconv_Itoa Tryz.laysM171 n h0 h1 w0 htab).mono ?_
  rintro e w' ⟨rfl, k, os, rfl⟩
  exact ⟨_, M, rfl, grow_st hM k os, PH.le.refl _, Fresh.refl _ _, rfl, rfl⟩
end Go.Proofs.YtcmgimicdcchlaaGreatDoor
set_option linter.unusedVariables false
set_option maxRecDepth 20000
namespace Go.Proofs.YtcmgimicdcchlaaGreatDoor
open Go.Proofs.Tryz
open Go Go.E Go.RowKit Go.Extern.Stop Go.Stop Go.Extern
theorem sz27 : (Tryz.prog.info? 27).map (·.size) = some 1 := by kernel_rfl
end Go.Proofs.YtcmgimicdcchlaaGreatDoor
set_option linter.unusedVariables false
set_option maxRecDepth 20000
namespace Go.Proofs.YtcmgimicdcchlaaGreatDoor
open Go.Proofs.Tryz
open Go Go.E
end Go.Proofs.YtcmgimicdcchlaaGreatDoor
