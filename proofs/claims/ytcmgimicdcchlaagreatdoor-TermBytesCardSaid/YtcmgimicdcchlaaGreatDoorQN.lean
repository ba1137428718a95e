/- Lemmas on the way to the statement; no condition of its own. -/
import Derived.Test.YtcmgimicdcchlaaGreatDoorQP
import Derived.Test.YtcmgimicdcchlaaGreatDoorQE2
import Derived.Test.YtcmgimicdcchlaaGreatDoorZX0
set_option linter.unusedVariables false
set_option maxRecDepth 20000
namespace Go.Proofs.YtcmgimicdcchlaaGreatDoor
open Go.Proofs.Tryz
open Go Go.E
theorem et238 : ET Tryz.prog 238 124 (.int .u64 0) 1 8 := ⟨underlying238, by kernel_rfl⟩
theorem own_zero (n0 b : Nat) (e : TypeId) (h : n0 ≤ b) : Own n0 [(b, .cells #[] e (0, 0))] (.slice (some ⟨b, 0, none⟩) 0 0) 0 1 [] e := ⟨rfl, .inr ⟨b, #[], 0, rfl, h, rfl, rfl, Nat.le_refl _, by omega, rfl⟩⟩
end Go.Proofs.YtcmgimicdcchlaaGreatDoor
set_option linter.unusedVariables false
set_option maxRecDepth 20000
namespace Go.Proofs.YtcmgimicdcchlaaGreatDoor
open Go.Proofs.Tryz
open Go Go.E
theorem qwrap_ok (n : Nat) (z : UInt32) (h : UInt32.ofNat n = z) (w : World) : Calls Tryz.prog 175 #[.int .u64 (n : Int)] w fun e w' => ∃ v, e = .returned v ∧ v = c64 z ∧ w' = w := by
  refine enter (l := [.int .u64 (n : Int)]) 5 func175 rfl ntmps175 rfl ?_
  refine CW.seq ?_
  refine CW.region ?_
  refine WL.step rfl (Stp.res rfl rfl (Res.assign (v := w64 0) rfl rfl) ?_)
  refine WL.nil (Thn_n ?_)
  refine CW.seq ?_
  refine CW.region ?_
  refine WL.step rfl (Stp.res rfl rfl (Res.move rfl rfl) ?_)
  refine WL.step rfl (Stp.res rfl rfl (Res.cast (Res.remU (a := n) (b := 4294967296) rfl rfl rfl (by decide)) (v' := c64 z) (by rw [← h, c64, UInt32.toNat_ofNat'])) ?_)
  refine WL.step rfl (Stp.res rfl rfl (Res.assign rfl rfl) ?_)
  refine WL.nil (Thn_n ?_)
  refine CW.ret ?_
  exact fq_tmp rfl rfl ⟨rfl, rfl⟩
theorem qright_ok (x : UInt32) (k : Nat) (hk : k ≤ 64) (w : World) : Calls Tryz.prog 174 #[c64 x, .int .i64 (k : Int)] w fun e w' => ∃ v, e = .returned v ∧ v = c64 (Sha.shr x k) ∧ w' = w := by
  refine enter (l := [c64 x, .int .i64 (k : Int)]) 8 func174 rfl ntmps174 rfl ?_
  refine CW.seq ?_
  refine CW.region ?_
  refine WL.step rfl (Stp.res rfl rfl (Res.assign (v := w64 0) rfl rfl) ?_)
  refine WL.nil (Thn_n ?_)
  refine CW.seq ?_
  refine CW.region ?_
  refine WL.step rfl (Stp.res rfl rfl (Res.move rfl rfl) ?_)
  refine WL.step rfl (Stp.res rfl rfl (Res.move rfl rfl) ?_)
  refine WL.step rfl (Stp.res rfl rfl (Res.cast (Res.shrU (a := x.toNat) (s := k) rfl rfl rfl hk) (v' := c64 (Sha.shr x k)) (by rw [c64, Sha.shr, UInt32.toNat_ofNat', Nat.mod_eq_of_lt (Nat.lt_of_le_of_lt (Nat.div_le_self _ _) x.toNat_lt)])) ?_)
  refine WL.step rfl (Stp.res rfl rfl (Res.assign rfl rfl) ?_)
  refine WL.nil (Thn_n ?_)
  refine CW.ret ?_
  exact fq_tmp rfl rfl ⟨rfl, rfl⟩
theorem qturn_ok (x : UInt32) (k : Nat) (w0 : World) (M : PH) (hM : On M w0) (hk : 0 < k ∧ k < 32) : Ok Tryz.prog 173 #[c64 x, .int .i64 (k : Int)] w0 M (fun M' r => M = M' ∧ r = c64 (Sha.ror x k)) := by
  have hS := hM.st
  refine enterB (l := [c64 x, .int .i64 (k : Int)]) 14 func173 rfl ntmps173 rfl ?_
  refine CW.seq ?_
  refine CW.region ?_
  refine WL.step rfl (Stp.res rfl rfl (Res.assign (v := w64 0) rfl rfl) ?_)
  refine WL.nil (Thn_n ?_)
  refine CW.seq ?_
  have hS := hS.drew
  have hK0 : True := trivial
  refine CW.held (fun _ => True) mixed ?_
  refine AL.take 0 rfl (by kernel_rfl) (by kernel_rfl) (by kernel_rfl) rfl rfl rfl hK0 (fun w hK => Res.move rfl rfl) ?_
  refine AL.take 1 rfl (by kernel_rfl) (by kernel_rfl) (by kernel_rfl) rfl rfl rfl hK0 (fun w hK => Res.move rfl rfl) ?_
  refine AL.take 2 rfl (by kernel_rfl) (by kernel_rfl) (by kernel_rfl) rfl rfl rfl hK0 (fun w hK => Res.shrU (a := x.toNat) (s := k) rfl rfl rfl (by show k ≤ 64; omega)) ?_
  refine AL.take 3 rfl (by kernel_rfl) (by kernel_rfl) (by kernel_rfl) rfl rfl rfl hK0 (fun w hK => Res.move rfl rfl) ?_
  refine AL.take 4 rfl (by kernel_rfl) (by kernel_rfl) (by kernel_rfl) rfl rfl rfl hK0 (fun w hK => Res.move rfl rfl) ?_
  refine AL.take 5 rfl (by kernel_rfl) (by kernel_rfl) (by kernel_rfl) rfl rfl rfl hK0 (fun w hK => Res.cast (Res.sub rfl rfl rfl (by omega)) (v' := .int .i64 ((32 - k : Nat) : Int)) (by congr 1; omega)) ?_
  refine AL.take 6 rfl (by kernel_rfl) (by kernel_rfl) (by kernel_rfl) rfl rfl rfl hK0 (fun w hK => Res.shlU (a := x.toNat) (s := 32 - k) uk64 rfl rfl rfl (by show 32 - k ≤ 64; omega)) ?_
  refine AL.one 7 rfl (by kernel_rfl) rfl (Stp.callA (args := [_]) rfl rfl rfl cal175 rfl rfl (qwrap_ok _ (UInt32.ofNat (x.toNat * 2 ^ (32 - k))) (Sha.ofN_mod _) _) ?_)
  have hK0 : True := trivial
  refine ⟨hK0, ?_⟩
  refine AL.take 8 rfl (by kernel_rfl) (by kernel_rfl) (by kernel_rfl) rfl rfl rfl hK0 (fun w hK => Res.cast (Res.addU uk64 rfl rfl rfl) (v' := c64 (Sha.ror x k)) (by rw [c64, ← Sha.ror_sum x hk.1 hk.2, UInt32.toNat_ofNat', Nat.mod_eq_of_lt]; have h1 := Nat.div_le_self x.toNat (2 ^ k); have h2 := x.toNat_lt; have h3 : (x.toNat * 2 ^ (32 - k)) % 4294967296 < 4294967296 := Nat.mod_lt _ (by decide); show _ < 18446744073709551616; omega)) ?_
  refine AL.take 9 rfl (by kernel_rfl) (by kernel_rfl) (by kernel_rfl) rfl rfl rfl hK0 (fun w hK => Res.assign rfl rfl) ?_
  refine AL.done (by kernel_rfl) (Thn_n ?_)
  refine CW.ret ?_
  exact fq_tmp rfl rfl ⟨M, hS, PH.le.refl _, Fresh.refl _ _, rfl, rfl⟩
theorem qfirst_ok  (w0 : World) (M : PH) (hM : On M w0)  : Ok Tryz.prog 163 #[] w0 M (fun M' r => M = M' ∧ r = .agg (ws32 Sha.first)) := by
  have hS := hM.st
  refine enterB (l := []) 2 func163 rfl ntmps163 rfl ?_
  refine CW.seq ?_
  refine CW.region ?_
  refine WL.step rfl (Stp.alloc (cs := ws32 (List.replicate 8 0)) rfl z224 rfl rfl rfl hS ?_)
  intro b0 w hb0 hS hkp hnw
  refine WL.nil (Thn_n ?_)
  refine CW.seq ?_
  refine CW.region ?_
  refine WL.step rfl (Stp.res rfl rfl (Res.build (vals := [(0, w32 1779033703), (1, w32 3144134277), (2, w32 1013904242), (3, w32 2773480762), (4, w32 1359893119), (5, w32 2600822924), (6, w32 528734635), (7, w32 1541459225)]) (cs := ws32 Sha.first) rfl rfl (fun _ => by kernel_rfl)) ?_)
  refine WL.step rfl (Stp.storeAllW32 0 rfl rfl rfl sz224 rfl hS rfl ⟨List.length_replicate .., rfl⟩ ?_)
  intro w hS hpt
  refine WL.nil (Thn_n ?_)
  refine CW.ret ?_
  exact fq_cell rfl rfl (hS.get (i := 0) rfl) underlying224 rfl (by rw [size_ws32]; exact sz224) ⟨M, hS.drop (i := 0) rfl hb0, PH.le.refl _, Fresh.refl _ _, rfl, rfl⟩
theorem qconsts_ok  (w0 : World) (M : PH) (hM : On M w0)  : Ok Tryz.prog 176 #[] w0 M (fun M' r => Vs M' r (Sha.consts.map c64)) := by
  have hS := hM.st
  refine enterB (l := []) 2 func176 rfl ntmps176 rfl ?_
  refine CW.seq ?_
  refine CW.region ?_
  refine WL.step rfl (Stp.res rfl rfl (Res.assign rfl rfl) ?_)
  refine WL.nil (Thn_n ?_)
  refine CW.seq ?_
  refine CW.region ?_
  refine WL.step rfl (Stp.lit (vals := [(0, .int .u64 1116352408), (1, .int .u64 1899447441), (2, .int .u64 3049323471), (3, .int .u64 3921009573), (4, .int .u64 961987163), (5, .int .u64 1508970993), (6, .int .u64 2453635748), (7, .int .u64 2870763221), (8, .int .u64 3624381080), (9, .int .u64 310598401), (10, .int .u64 607225278), (11, .int .u64 1426881987), (12, .int .u64 1925078388), (13, .int .u64 2162078206), (14, .int .u64 2614888103), (15, .int .u64 3248222580), (16, .int .u64 3835390401), (17, .int .u64 4022224774), (18, .int .u64 264347078), (19, .int .u64 604807628), (20, .int .u64 770255983), (21, .int .u64 1249150122), (22, .int .u64 1555081692), (23, .int .u64 1996064986), (24, .int .u64 2554220882), (25, .int .u64 2821834349), (26, .int .u64 2952996808), (27, .int .u64 3210313671), (28, .int .u64 3336571891), (29, .int .u64 3584528711), (30, .int .u64 113926993), (31, .int .u64 338241895), (32, .int .u64 666307205), (33, .int .u64 773529912), (34, .int .u64 1294757372), (35, .int .u64 1396182291), (36, .int .u64 1695183700), (37, .int .u64 1986661051), (38, .int .u64 2177026350), (39, .int .u64 2456956037), (40, .int .u64 2730485921), (41, .int .u64 2820302411), (42, .int .u64 3259730800), (43, .int .u64 3345764771), (44, .int .u64 3516065817), (45, .int .u64 3600352804), (46, .int .u64 4094571909), (47, .int .u64 275423344), (48, .int .u64 430227734), (49, .int .u64 506948616), (50, .int .u64 659060556), (51, .int .u64 883997877), (52, .int .u64 958139571), (53, .int .u64 1322822218), (54, .int .u64 1537002063), (55, .int .u64 1747873779), (56, .int .u64 1955562222), (57, .int .u64 2024104815), (58, .int .u64 2227730452), (59, .int .u64 2361852424), (60, .int .u64 2428436474), (61, .int .u64 2756734187), (62, .int .u64 3204031479), (63, .int .u64 3329325298)]) (cs := cs64 Sha.consts) (e := 124) rfl rfl (fun _ => by kernel_rfl) rfl rfl hS ?_)
  intro b1 w hb1 hS hkp hnw
  refine WL.step rfl (Stp.res rfl rfl (Res.assign rfl rfl) ?_)
  refine WL.nil (Thn_n ?_)
  refine CW.ret ?_
  have hF := hS.freezeG (i := 0) rfl hb1
  exact fq_tmp rfl rfl ⟨_, hF.1, hF.2.1, hF.2.2, Vs.of (PH.add_self _ _ _) (by simp [cs64]) (by rw [List.length_map, Sha.consts_len]) (by omega)⟩
end Go.Proofs.YtcmgimicdcchlaaGreatDoor
set_option linter.unusedVariables false
set_option maxRecDepth 20000
namespace Go.Proofs.YtcmgimicdcchlaaGreatDoor
open Go.Proofs.Tryz
open Go Go.E
theorem qblock_ok (st : List UInt32) (blk : List UInt8) (w0 : World) (M : PH) (hM : On M w0) (hst : st.length = 8) (hblk : blk.length = 64) : Ok Tryz.prog 165 #[.agg (ws32 st), .agg (bs blk)] w0 M (fun M' r => M = M' ∧ r = .agg (ws32 (Sha.block st blk))) := by
  have hS := hM.st
  refine enterB (l := [.agg (ws32 st), .agg (bs blk)]) 244 func165 rfl ntmps165 rfl ?_
  refine CW.seq ?_
  refine CW.region ?_
  refine WL.step rfl (Stp.boxA rfl rfl rfl rfl hS ?_)
  intro b2 w hb2 hS hkp hnw
  refine WL.step rfl (Stp.boxA rfl rfl rfl rfl hS ?_)
  intro b3 w hb3 hS hkp hnw
  refine WL.step rfl (Stp.alloc (cs := ws32 (List.replicate 8 0)) rfl z224 rfl rfl rfl hS ?_)
  intro b4 w hb4 hS hkp hnw
  refine WL.nil (Thn_n ?_)
  refine CW.seq ?_
  obtain ⟨M1, hG1, hbs, hbk, hS⟩ : ∃ M1, Grow w0.heap.size M M1 ∧ M1 b2 = some (.cells (ws32 st) 224 (0, 0)) ∧ M1 b3 = some (.cells (bs blk) 222 (0, 0)) ∧ St w0 w M1 [(b4, .cells (ws32 (List.replicate 8 0)) 224 (0, 0))] := by
    have hF := hS.freezeG (i := 1) rfl hb3
    have hF2 := hF.1.freezeG (i := 1) rfl hb2
    exact ⟨_, hF.2.trans hF2.2, PH.add_self _ _ _, hF2.2.1 _ _ (PH.add_self _ _ _), hF2.1⟩
  refine CW.region ?_
  refine WL.step rfl (Stp.lit (vals := []) (cs := #[]) (e := 124) rfl rfl (fun _ => by kernel_rfl) rfl rfl hS ?_)
  intro b24 w hb24 hS hkp hnw
  refine WL.step rfl (Stp.res rfl rfl (Res.assign rfl rfl) ?_)
  refine WL.nil (Thn_n ?_)
  refine CW.seq ?_
  refine CW.seq ?_
  have hown := own_zero w0.heap.size b24 124 hb24
  refine CW.region ?_
  refine WL.step rfl (Stp.res rfl rfl (Res.assign rfl rfl) ?_)
  refine WL.nil (Thn_n ?_)
  refine CW.block ?_
  refine CW.loop (σ := Nat × PH × Value × Owned) (fun s => [(2, .pointer (some ⟨b2, 0, none⟩)), (3, .pointer (some ⟨b3, 0, none⟩)), (4, .pointer (some ⟨b4, 0, none⟩)), (5, s.2.2.1), (6, .int .i64 ((4 * s.1 : Nat) : Int))])
    (fun s w' => s.1 ≤ 16 ∧ Grow w0.heap.size M1 s.2.1 ∧ St w0 w' s.2.1 (s.2.2.2 ++ [(b4, .cells (ws32 (List.replicate 8 0)) 224 (0, 0))]) ∧ Own w0.heap.size s.2.2.2 s.2.2.1 s.1 1 (((Sha.wl blk s.1).take s.1).map c64) 124) (fun s => 16 - s.1) (0, M1, _, _) ⟨rfl, rfl, rfl, rfl, rfl, trivial⟩ ⟨by dsimp only; omega, Grow.refl _ _, hS, hown⟩ ?_
  rintro ⟨t, MJ, wv, g⟩ w1 ⟨ht, hGJ, hS, hown⟩
  dsimp only at ht hGJ hS hown ⊢
  refine CW.seq ?_
  refine CW.seq ?_
  refine CW.region ?_
  refine WL.step rfl (Stp.res rfl rfl (Res.move rfl rfl) ?_)
  refine WL.step rfl (Stp.res rfl rfl (Res.lss rfl rfl rfl) ?_)
  refine WL.nil (Thn_n ?_)
  refine CW.ite rfl (fun h => ?_) (fun h => ?_)
  · have hlt : t < 16 := by omega
    refine CW.skip (Thn_n ?_)
    refine CW.seq ?_
    refine CW.block ?_
    obtain ⟨z, hz⟩ : ∃ z, z = Sha.word0 blk t := ⟨_, rfl⟩
    obtain ⟨OO, hOO⟩ : ∃ OO : Owned, OO = [(b4, .cells (ws32 (List.replicate 8 0)) 224 (0, 0))] := ⟨_, rfl⟩
    rw [← hOO] at hS
    have hS := hS.drew
    have hK0 := hS.on
    refine CW.held (fun w => On MJ w) mixed ?_
    refine AL.take 0 rfl (by kernel_rfl) (by kernel_rfl) (by kernel_rfl) rfl rfl rfl hK0 (fun w hK => Res.move rfl rfl) ?_
    refine AL.take 1 rfl (by kernel_rfl) (by kernel_rfl) (by kernel_rfl) rfl rfl rfl hK0 (fun w hK => Res.move rfl rfl) ?_
    refine AL.take 2 rfl (by kernel_rfl) (by kernel_rfl) (by kernel_rfl) rfl rfl rfl hK0 (fun w hK => Res.idxA0 (k := 4 * t + 0) rfl rfl rfl underlying222 sz5 (by omega) (by omega)) ?_
    refine AL.take 3 rfl (by kernel_rfl) (by kernel_rfl) (by kernel_rfl) rfl rfl rfl hK0 (fun w hK => Res.load1 (v := byte (blk.getD (4 * t + 0) 0)) rfl rfl underlying5 rfl (w := w) (hK.st.cell (PH.cell_of (hGJ.1 _ _ hbk) (bs_get (by omega))))) ?_
    refine AL.take 4 rfl (by kernel_rfl) (by kernel_rfl) (by kernel_rfl) rfl rfl rfl hK0 (fun w hK => Res.convW (a := (blk.getD (4 * t + 0) 0).toNat) uk64 rfl rfl underlying5 underlying124 (by have := (blk.getD (4 * t + 0) 0).toNat_lt; omega)) ?_
    refine AL.take 5 rfl (by kernel_rfl) (by kernel_rfl) (by kernel_rfl) rfl rfl rfl hK0 (fun w hK => Res.mulU uk64 (b := 16777216) rfl rfl rfl) ?_
    refine AL.take 6 rfl (by kernel_rfl) (by kernel_rfl) (by kernel_rfl) rfl rfl rfl hK0 (fun w hK => Res.move rfl rfl) ?_
    refine AL.take 7 rfl (by kernel_rfl) (by kernel_rfl) (by kernel_rfl) rfl rfl rfl hK0 (fun w hK => Res.add rfl rfl rfl (by omega)) ?_
    refine AL.take 8 rfl (by kernel_rfl) (by kernel_rfl) (by kernel_rfl) rfl rfl rfl hK0 (fun w hK => Res.idxA0 (k := 4 * t + 1) rfl rfl rfl underlying222 sz5 (by omega) (by omega)) ?_
    refine AL.take 9 rfl (by kernel_rfl) (by kernel_rfl) (by kernel_rfl) rfl rfl rfl hK0 (fun w hK => Res.load1 (v := byte (blk.getD (4 * t + 1) 0)) rfl rfl underlying5 rfl (w := w) (hK.st.cell (PH.cell_of (hGJ.1 _ _ hbk) (bs_get (by omega))))) ?_
    refine AL.take 10 rfl (by kernel_rfl) (by kernel_rfl) (by kernel_rfl) rfl rfl rfl hK0 (fun w hK => Res.convW (a := (blk.getD (4 * t + 1) 0).toNat) uk64 rfl rfl underlying5 underlying124 (by have := (blk.getD (4 * t + 1) 0).toNat_lt; omega)) ?_
    refine AL.take 11 rfl (by kernel_rfl) (by kernel_rfl) (by kernel_rfl) rfl rfl rfl hK0 (fun w hK => Res.mulU uk64 (b := 65536) rfl rfl rfl) ?_
    refine AL.take 12 rfl (by kernel_rfl) (by kernel_rfl) (by kernel_rfl) rfl rfl rfl hK0 (fun w hK => Res.addU uk64 rfl rfl rfl) ?_
    refine AL.take 13 rfl (by kernel_rfl) (by kernel_rfl) (by kernel_rfl) rfl rfl rfl hK0 (fun w hK => Res.move rfl rfl) ?_
    refine AL.take 14 rfl (by kernel_rfl) (by kernel_rfl) (by kernel_rfl) rfl rfl rfl hK0 (fun w hK => Res.add rfl rfl rfl (by omega)) ?_
    refine AL.take 15 rfl (by kernel_rfl) (by kernel_rfl) (by kernel_rfl) rfl rfl rfl hK0 (fun w hK => Res.idxA0 (k := 4 * t + 2) rfl rfl rfl underlying222 sz5 (by omega) (by omega)) ?_
    refine AL.take 16 rfl (by kernel_rfl) (by kernel_rfl) (by kernel_rfl) rfl rfl rfl hK0 (fun w hK => Res.load1 (v := byte (blk.getD (4 * t + 2) 0)) rfl rfl underlying5 rfl (w := w) (hK.st.cell (PH.cell_of (hGJ.1 _ _ hbk) (bs_get (by omega))))) ?_
    refine AL.take 17 rfl (by kernel_rfl) (by kernel_rfl) (by kernel_rfl) rfl rfl rfl hK0 (fun w hK => Res.convW (a := (blk.getD (4 * t + 2) 0).toNat) uk64 rfl rfl underlying5 underlying124 (by have := (blk.getD (4 * t + 2) 0).toNat_lt; omega)) ?_
    refine AL.take 18 rfl (by kernel_rfl) (by kernel_rfl) (by kernel_rfl) rfl rfl rfl hK0 (fun w hK => Res.mulU uk64 (b := 256) rfl rfl rfl) ?_
    refine AL.take 19 rfl (by kernel_rfl) (by kernel_rfl) (by kernel_rfl) rfl rfl rfl hK0 (fun w hK => Res.addU uk64 rfl rfl rfl) ?_
    refine AL.take 20 rfl (by kernel_rfl) (by kernel_rfl) (by kernel_rfl) rfl rfl rfl hK0 (fun w hK => Res.move rfl rfl) ?_
    refine AL.take 21 rfl (by kernel_rfl) (by kernel_rfl) (by kernel_rfl) rfl rfl rfl hK0 (fun w hK => Res.add rfl rfl rfl (by omega)) ?_
    refine AL.take 22 rfl (by kernel_rfl) (by kernel_rfl) (by kernel_rfl) rfl rfl rfl hK0 (fun w hK => Res.idxA0 (k := 4 * t + 3) rfl rfl rfl underlying222 sz5 (by omega) (by omega)) ?_
    refine AL.take 23 rfl (by kernel_rfl) (by kernel_rfl) (by kernel_rfl) rfl rfl rfl hK0 (fun w hK => Res.load1 (v := byte (blk.getD (4 * t + 3) 0)) rfl rfl underlying5 rfl (w := w) (hK.st.cell (PH.cell_of (hGJ.1 _ _ hbk) (bs_get (by omega))))) ?_
    refine AL.take 24 rfl (by kernel_rfl) (by kernel_rfl) (by kernel_rfl) rfl rfl rfl hK0 (fun w hK => Res.convW (a := (blk.getD (4 * t + 3) 0).toNat) uk64 rfl rfl underlying5 underlying124 (by have := (blk.getD (4 * t + 3) 0).toNat_lt; omega)) ?_
    refine AL.take 25 rfl (by kernel_rfl) (by kernel_rfl) (by kernel_rfl) rfl rfl rfl hK0 (fun w hK => Res.cast (Res.addU uk64 rfl rfl rfl) (v' := c64 z) (by rw [c64, hz, Sha.word0, ← Sha.word_sum]; have h0 := (blk.getD (4 * t) 0).toNat_lt; have h1 := (blk.getD (4 * t + 1) 0).toNat_lt; have h2 := (blk.getD (4 * t + 2) 0).toNat_lt; have h3 := (blk.getD (4 * t + 3) 0).toNat_lt; simp only [Nat.add_zero]; congr 2; omega)) ?_
    refine AL.one 26 rfl (by kernel_rfl) rfl (Stp.lit (vals := [(0, c64 z)]) (cs := #[c64 z]) (e := 124) rfl rfl (fun _ => by kernel_rfl) rfl rfl hS ?_)
    intro b55 w hb55 hS hkp hnw
    have hF := hS.freezeG (i := 0) rfl hb55
    obtain ⟨M5, hG5, hlit, hS⟩ : ∃ M5, Grow w0.heap.size MJ M5 ∧ Vs M5 (.slice (some ⟨b55, 0, none⟩) 1 1) [c64 z] ∧ St w0 w M5 (g ++ OO) := ⟨_, hF.2, Vs.of (PH.add_self _ _ _) rfl rfl (by decide), hF.1⟩
    have hK0 : On MJ w := (hS.known hG5.1).on
    refine ⟨hK0, ?_⟩
    refine AL.one 27 rfl (by kernel_rfl) rfl (Stp.append (sz := 1) (m := 1) (k := t) (xs := ((Sha.wl blk t).take t).map c64) rfl rfl rfl rfl et238 (by decide) rfl (Src.ofVs underlying238 hS hlit (by intro x hx; simp at hx; subst hx; rfl)) hS hown (by omega) (by omega) rfl rfl ?_)
    intro wv2 w g2 hS hown
    have hK0 : On MJ w := (hS.known hG5.1).on
    refine ⟨hK0, ?_⟩
    refine AL.take 28 rfl (by kernel_rfl) (by kernel_rfl) (by kernel_rfl) rfl rfl rfl hK0 (fun w hK => Res.assign rfl rfl) ?_
    refine AL.done (by kernel_rfl) (Blk_n (Thn_n ?_))
    refine CW.region ?_
    refine WL.step rfl (Stp.res rfl rfl (Res.move rfl rfl) ?_)
    refine WL.step rfl (Stp.res rfl rfl (Res.add rfl rfl rfl (by omega)) ?_)
    refine WL.step rfl (Stp.res rfl rfl (Res.assign rfl rfl) ?_)
    refine WL.nil (Thn_n ?_)
    rw [hz, ← List.map_singleton, ← List.map_append] at hown
    have hw := Sha.wl_take blk (n := t) (by omega)
    rw [if_pos hlt] at hw
    rw [← hw] at hown
    subst hOO
    exact ⟨(t + 1, M5, wv2, g2), ⟨rfl, rfl, rfl, rfl, intc (by omega), trivial⟩, ⟨by dsimp only; omega, hGJ.trans hG5, hS, hown⟩, by dsimp only; omega⟩
  · obtain rfl : t = 16 := by omega
    obtain ⟨M2, hM2e, hgg2⟩ : ∃ M2, M2 = MJ ∧ Grow w0.heap.size M1 M2 := ⟨MJ, rfl, hGJ⟩
    subst hM2e
    refine CW.exit (Thn_x (Thn_x (Blk_x (Thn_n ?_))))
    refine CW.seq ?_
    refine CW.seq ?_
    refine CW.region ?_
    refine WL.step rfl (Stp.res rfl rfl (Res.assign rfl rfl) ?_)
    refine WL.nil (Thn_n ?_)
    refine CW.block ?_
    refine CW.loop (σ := Nat × PH × Value × Owned) (fun s => [(2, .pointer (some ⟨b2, 0, none⟩)), (4, .pointer (some ⟨b4, 0, none⟩)), (5, s.2.2.1), (7, .int .i64 (s.1 : Int))])
      (fun s w' => 16 ≤ s.1 ∧ s.1 ≤ 64 ∧ Grow w0.heap.size M2 s.2.1 ∧ St w0 w' s.2.1 (s.2.2.2 ++ [(b4, .cells (ws32 (List.replicate 8 0)) 224 (0, 0))]) ∧ Own w0.heap.size s.2.2.2 s.2.2.1 s.1 1 (((Sha.wl blk s.1).take s.1).map c64) 124) (fun s => 64 - s.1) (16, M2, _, _) ⟨rfl, rfl, rfl, rfl, trivial⟩ ⟨by dsimp only; omega, by dsimp only; omega, Grow.refl _ _, hS, hown⟩ ?_
    rintro ⟨t, MJ, wv, g⟩ w2 ⟨ht0, ht, hGJ, hS, hown⟩
    dsimp only at ht0 ht hGJ hS hown ⊢
    refine CW.seq ?_
    refine CW.seq ?_
    refine CW.region ?_
    refine WL.step rfl (Stp.res rfl rfl (Res.move rfl rfl) ?_)
    refine WL.step rfl (Stp.res rfl rfl (Res.lss rfl rfl rfl) ?_)
    refine WL.nil (Thn_n ?_)
    refine CW.ite rfl (fun h2 => ?_) (fun h2 => ?_)
    · have hlt : t < 64 := by omega
      obtain ⟨wb, cs, cp, hwb, rfl, rfl, hxl, hm, hcp, hcs⟩ := Own.vs hown (by omega)
      have wat : ∀ {j : Nat}, j < t → ((((Sha.wl blk t).take t).map c64))[j]? = some (c64 ((Sha.wl blk t).getD j 0)) := fun {j} hj => by rw [List.getElem?_map, Sha.wl_at blk hj (by omega)]; rfl
      refine CW.skip (Thn_n ?_)
      refine CW.seq ?_
      refine CW.block ?_
      refine CW.seq ?_
      have hS := hS.drew
      refine CW.still mixed (by kernel_rfl) ?_
      refine SL.step rfl rfl rfl (Res.move rfl rfl) ?_
      refine SL.step rfl rfl rfl (Res.move rfl rfl) ?_
      refine SL.step rfl rfl rfl (Res.sub rfl rfl rfl (by omega)) ?_
      refine SL.step rfl rfl rfl (Res.idxS0 (k := t - 15) rfl rfl rfl underlying238 sz124 (by omega) (by omega)) ?_
      refine SL.step rfl rfl rfl (Res.load1 (v := c64 ((Sha.wl blk t).getD (t - 15) 0)) rfl rfl underlying124 rfl (hS.ocell (i := 0) rfl (hcs _ _ (wat (by omega))))) ?_
      refine SL.step rfl rfl rfl (Res.move rfl rfl) ?_
      refine SL.step rfl rfl rfl (Res.move rfl rfl) ?_
      refine SL.step rfl rfl rfl (Res.sub rfl rfl rfl (by omega)) ?_
      refine SL.step rfl rfl rfl (Res.idxS0 (k := t - 2) rfl rfl rfl underlying238 sz124 (by omega) (by omega)) ?_
      refine SL.step rfl rfl rfl (Res.load1 (v := c64 ((Sha.wl blk t).getD (t - 2) 0)) rfl rfl underlying124 rfl (hS.ocell (i := 0) rfl (hcs _ _ (wat (by omega))))) ?_
      refine SL.step rfl rfl rfl (Res.assign rfl rfl) ?_
      refine SL.step rfl rfl rfl (Res.assign rfl rfl) ?_
      refine SL.nil (Thn_n ?_)
      refine CW.seq ?_
      refine CW.region ?_
      refine WL.step rfl (Stp.res rfl rfl (Res.move rfl rfl) ?_)
      refine WL.step rfl (Stp.callG (args := [_, _]) rfl rfl rfl cal173 rfl rfl hS (qturn_ok _ 7 _ _ hS.on (by decide)) ?_)
      rintro _ w _ hS _ ⟨rfl, rfl⟩
      refine WL.step rfl (Stp.res rfl rfl (Res.move rfl rfl) ?_)
      refine WL.step rfl (Stp.callG (args := [_, _]) rfl rfl rfl cal173 rfl rfl hS (qturn_ok _ 18 _ _ hS.on (by decide)) ?_)
      rintro _ w _ hS _ ⟨rfl, rfl⟩
      refine WL.step rfl (Stp.res rfl rfl (Res.xorC rfl rfl rfl) ?_)
      refine WL.step rfl (Stp.res rfl rfl (Res.move rfl rfl) ?_)
      refine WL.step rfl (Stp.callA (args := [_, _]) rfl rfl rfl cal174 rfl rfl (qright_ok _ 3 (by decide) _) ?_)
      refine WL.step rfl (Stp.res rfl rfl (Res.xorC rfl rfl rfl) ?_)
      refine WL.step rfl (Stp.res rfl rfl (Res.assign rfl rfl) ?_)
      refine WL.nil (Thn_n ?_)
      refine CW.seq ?_
      refine CW.region ?_
      refine WL.step rfl (Stp.res rfl rfl (Res.move rfl rfl) ?_)
      refine WL.step rfl (Stp.callG (args := [_, _]) rfl rfl rfl cal173 rfl rfl hS (qturn_ok _ 17 _ _ hS.on (by decide)) ?_)
      rintro _ w _ hS _ ⟨rfl, rfl⟩
      refine WL.step rfl (Stp.res rfl rfl (Res.move rfl rfl) ?_)
      refine WL.step rfl (Stp.callG (args := [_, _]) rfl rfl rfl cal173 rfl rfl hS (qturn_ok _ 19 _ _ hS.on (by decide)) ?_)
      rintro _ w _ hS _ ⟨rfl, rfl⟩
      refine WL.step rfl (Stp.res rfl rfl (Res.xorC rfl rfl rfl) ?_)
      refine WL.step rfl (Stp.res rfl rfl (Res.move rfl rfl) ?_)
      refine WL.step rfl (Stp.callA (args := [_, _]) rfl rfl rfl cal174 rfl rfl (qright_ok _ 10 (by decide) _) ?_)
      refine WL.step rfl (Stp.res rfl rfl (Res.xorC rfl rfl rfl) ?_)
      refine WL.step rfl (Stp.res rfl rfl (Res.assign rfl rfl) ?_)
      refine WL.nil (Thn_n ?_)
      obtain ⟨z, hz⟩ : ∃ z, z = Sha.next (Sha.wl blk t) t := ⟨_, rfl⟩
      have hS := hS.drew
      have hK0 := hS.get (i := 0) rfl
      refine CW.last (fun w => w.heap[wb]? = some (.cells cs 124 (0, 0))) [18, 19] mixed ?_
      refine ZL.take 0 rfl (by kernel_rfl) rfl rfl rfl hK0 (fun w hK => Res.move rfl rfl) ?_
      refine ZL.take 1 rfl (by kernel_rfl) rfl rfl rfl hK0 (fun w hK => Res.move rfl rfl) ?_
      refine ZL.take 2 rfl (by kernel_rfl) rfl rfl rfl hK0 (fun w hK => Res.move rfl rfl) ?_
      refine ZL.take 3 rfl (by kernel_rfl) rfl rfl rfl hK0 (fun w hK => Res.move rfl rfl) ?_
      refine ZL.take 4 rfl (by kernel_rfl) rfl rfl rfl hK0 (fun w hK => Res.sub rfl rfl rfl (by omega)) ?_
      refine ZL.take 5 rfl (by kernel_rfl) rfl rfl rfl hK0 (fun w hK => Res.idxS0 (k := t - 7) rfl rfl rfl underlying238 sz124 (by omega) (by omega)) ?_
      refine ZL.take 6 rfl (by kernel_rfl) rfl rfl rfl hK0 (fun w hK => Res.load1 (v := c64 ((Sha.wl blk t).getD (t - 7) 0)) rfl rfl underlying124 rfl (w := w) (by rw [cell_of hK]; exact hcs _ _ (wat (by omega)))) ?_
      refine ZL.take 7 rfl (by kernel_rfl) rfl rfl rfl hK0 (fun w hK => Res.addU uk64 rfl rfl rfl) ?_
      refine ZL.take 8 rfl (by kernel_rfl) rfl rfl rfl hK0 (fun w hK => Res.move rfl rfl) ?_
      refine ZL.take 9 rfl (by kernel_rfl) rfl rfl rfl hK0 (fun w hK => Res.addU uk64 rfl rfl rfl) ?_
      refine ZL.take 10 rfl (by kernel_rfl) rfl rfl rfl hK0 (fun w hK => Res.move rfl rfl) ?_
      refine ZL.take 11 rfl (by kernel_rfl) rfl rfl rfl hK0 (fun w hK => Res.move rfl rfl) ?_
      refine ZL.take 12 rfl (by kernel_rfl) rfl rfl rfl hK0 (fun w hK => Res.sub rfl rfl rfl (by omega)) ?_
      refine ZL.take 13 rfl (by kernel_rfl) rfl rfl rfl hK0 (fun w hK => Res.idxS0 (k := t - 16) rfl rfl rfl underlying238 sz124 (by omega) (by omega)) ?_
      refine ZL.take 14 rfl (by kernel_rfl) rfl rfl rfl hK0 (fun w hK => Res.load1 (v := c64 ((Sha.wl blk t).getD (t - 16) 0)) rfl rfl underlying124 rfl (w := w) (by rw [cell_of hK]; exact hcs _ _ (wat (by omega)))) ?_
      refine ZL.take 15 rfl (by kernel_rfl) rfl rfl rfl hK0 (fun w hK => Res.addU uk64 rfl rfl rfl) ?_
      refine ZL.one 16 rfl (by kernel_rfl) rfl (Stp.callA (args := [_]) rfl rfl rfl cal175 rfl rfl (qwrap_ok _ z (by rw [hz, Sha.next]; simp only [Sha.ofN_mod, UInt32.ofNat_add, Sha.ofN_toNat]; ac_rfl) _) ?_)
      skip
      refine ⟨hK0, ?_⟩
      refine ZL.one 17 rfl (by kernel_rfl) rfl (Stp.lit (vals := [(0, c64 z)]) (cs := #[c64 z]) (e := 124) rfl rfl (fun _ => by kernel_rfl) rfl rfl hS ?_)
      intro b104 w hb104 hS hkp hnw
      have hF := hS.freezeG (i := 0) rfl hb104
      obtain ⟨M5, hG5, hlit, hS⟩ : ∃ M5, Grow w0.heap.size MJ M5 ∧ Vs M5 (.slice (some ⟨b104, 0, none⟩) 1 1) [c64 z] ∧ St w0 w M5 ([(wb, .cells cs 124 (0, 0))] ++ [(b4, .cells (ws32 (List.replicate 8 0)) 224 (0, 0))]) := ⟨_, hF.2, Vs.of (PH.add_self _ _ _) rfl rfl (by decide), hF.1⟩
      have hK0 := hS.get (i := 0) rfl
      refine ⟨hK0, ?_⟩
      refine ZL.end 18 (by decide) rfl (by kernel_rfl) rfl (Stp.append (sz := 1) (m := 1) (k := t) (xs := ((Sha.wl blk t).take t).map c64) rfl rfl rfl rfl et238 (by decide) rfl (Src.ofVs underlying238 hS hlit (by intro x hx; simp at hx; subst hx; rfl)) hS hown (by omega) (by omega) rfl rfl ?_)
      intro wv2 w g2 hS hown
      refine ZL.end 19 (by decide) rfl (by kernel_rfl) rfl (Stp.res rfl rfl (Res.assign rfl rfl) ?_)
      refine ZL.done (by kernel_rfl) (Blk_n (Thn_n ?_))
      refine CW.region ?_
      refine WL.step rfl (Stp.res rfl rfl (Res.move rfl rfl) ?_)
      refine WL.step rfl (Stp.res rfl rfl (Res.add rfl rfl rfl (by omega)) ?_)
      refine WL.step rfl (Stp.res rfl rfl (Res.assign rfl rfl) ?_)
      refine WL.nil (Thn_n ?_)
      rw [hz, ← List.map_singleton, ← List.map_append] at hown
      have hw := Sha.wl_take blk (n := t) (by omega)
      rw [if_neg (by omega)] at hw
      rw [← hw] at hown
      exact ⟨(t + 1, M5, wv2, g2), ⟨rfl, rfl, rfl, rfl, trivial⟩, ⟨by dsimp only; omega, by dsimp only; omega, hGJ.trans hG5, hS, hown⟩, by dsimp only; omega⟩
    · obtain rfl : t = 64 := by omega
      obtain ⟨M6, hS, hG6, hw64⟩ := Own.give hown hS
      rw [show ((Sha.wl blk 64).take 64) = Sha.wl blk 64 from List.take_of_length_le (by rw [Sha.wl_length]; exact Nat.le_refl _)] at hw64
      have hG16 : Grow w0.heap.size M1 M6 := (hgg2.trans hGJ).trans hG6
      have hbs2 := hG16.1 _ _ hbs
      refine CW.exit (Thn_x (Thn_x (Blk_x (Thn_n ?_))))
      refine CW.seq ?_
      refine CW.region ?_
      refine WL.step rfl (Stp.lit (vals := []) (cs := #[]) (e := 124) rfl rfl (fun _ => by kernel_rfl) rfl rfl hS ?_)
      intro b106 w hb106 hS hkp hnw
      refine WL.step rfl (Stp.res rfl rfl (Res.assign rfl rfl) ?_)
      refine WL.nil (Thn_n ?_)
      refine CW.seq ?_
      refine CW.seq ?_
      have hown := own_zero w0.heap.size b106 124 hb106
      refine CW.region ?_
      refine WL.step rfl (Stp.res rfl rfl (Res.assign rfl rfl) ?_)
      refine WL.nil (Thn_n ?_)
      refine CW.block ?_
      refine CW.loop (σ := Nat × PH × Value × Owned) (fun s => [(2, .pointer (some ⟨b2, 0, none⟩)), (4, .pointer (some ⟨b4, 0, none⟩)), (5, wv), (12, s.2.2.1), (13, .int .i64 (s.1 : Int))])
        (fun s w' => s.1 ≤ 8 ∧ Grow w0.heap.size M6 s.2.1 ∧ St w0 w' s.2.1 (s.2.2.2 ++ [(b4, .cells (ws32 (List.replicate 8 0)) 224 (0, 0))]) ∧ Own w0.heap.size s.2.2.2 s.2.2.1 s.1 1 ((st.take s.1).map c64) 124) (fun s => 8 - s.1) (0, M6, _, _) ⟨rfl, rfl, rfl, rfl, rfl, trivial⟩ ⟨by dsimp only; omega, Grow.refl _ _, hS, hown⟩ ?_
      rintro ⟨i, MJ, sv, g⟩ w3 ⟨hi, hGJ, hS, hown⟩
      dsimp only at hi hGJ hS hown ⊢
      refine CW.seq ?_
      refine CW.seq ?_
      refine CW.region ?_
      refine WL.step rfl (Stp.res rfl rfl (Res.move rfl rfl) ?_)
      refine WL.step rfl (Stp.res rfl rfl (Res.lss rfl rfl rfl) ?_)
      refine WL.nil (Thn_n ?_)
      refine CW.ite rfl (fun h3 => ?_) (fun h3 => ?_)
      · have hlt : i < 8 := by omega
        refine CW.skip (Thn_n ?_)
        refine CW.seq ?_
        refine CW.block ?_
        obtain ⟨z, hz⟩ : ∃ z, z = st.getD i 0 := ⟨_, rfl⟩
        obtain ⟨OO, hOO⟩ : ∃ OO : Owned, OO = [(b4, .cells (ws32 (List.replicate 8 0)) 224 (0, 0))] := ⟨_, rfl⟩
        rw [← hOO] at hS
        refine CW.region ?_
        refine WL.step rfl (Stp.res rfl rfl (Res.move rfl rfl) ?_)
        refine WL.step rfl (Stp.res rfl rfl (Res.move rfl rfl) ?_)
        refine WL.step rfl (Stp.res rfl rfl (Res.idxA0 (k := i) rfl rfl rfl underlying224 sz223 (by omega) (by omega)) ?_)
        refine WL.step rfl (Stp.res rfl rfl (Res.load1 (v := w32 z) rfl rfl underlying223 rfl (hS.cell (PH.cell_of (hGJ.1 _ _ hbs2) (by rw [hz]; exact ws32_get (by omega))))) ?_)
        refine WL.step rfl (Stp.res rfl rfl (Res.cast (Res.convW (a := z.toNat) uk64 rfl rfl underlying223 underlying124 (lt64 z)) (v' := c64 z) rfl) ?_)
        refine WL.step rfl (Stp.lit (vals := [(0, c64 z)]) (cs := #[c64 z]) (e := 124) rfl rfl (fun _ => by kernel_rfl) rfl rfl hS ?_)
        intro b116 w hb116 hS hkp hnw
        have hF := hS.freezeG (i := 0) rfl hb116
        obtain ⟨M5, hG5, hlit, hS⟩ : ∃ M5, Grow w0.heap.size MJ M5 ∧ Vs M5 (.slice (some ⟨b116, 0, none⟩) 1 1) [c64 z] ∧ St w0 w M5 (g ++ OO) := ⟨_, hF.2, Vs.of (PH.add_self _ _ _) rfl rfl (by decide), hF.1⟩
        refine WL.step rfl (Stp.append (sz := 1) (m := 1) (k := i) (xs := (st.take i).map c64) rfl rfl rfl rfl et238 (by decide) rfl (Src.ofVs underlying238 hS hlit (by intro x hx; simp at hx; subst hx; rfl)) hS hown (by omega) (by omega) rfl rfl ?_)
        intro wv2 w g2 hS hown
        refine WL.step rfl (Stp.res rfl rfl (Res.assign rfl rfl) ?_)
        refine WL.nil (Blk_n (Thn_n ?_))
        refine CW.region ?_
        refine WL.step rfl (Stp.res rfl rfl (Res.move rfl rfl) ?_)
        refine WL.step rfl (Stp.res rfl rfl (Res.add rfl rfl rfl (by omega)) ?_)
        refine WL.step rfl (Stp.res rfl rfl (Res.assign rfl rfl) ?_)
        refine WL.nil (Thn_n ?_)
        rw [hz, ← List.map_singleton, ← List.map_append, show st.take i ++ [st.getD i 0] = st.take (i + 1) by rw [List.take_add_one, List.getD_eq_getElem?_getD, List.getElem?_eq_getElem (by omega)]; rfl] at hown
        subst hOO
        exact ⟨(i + 1, M5, wv2, g2), ⟨rfl, rfl, rfl, rfl, rfl, trivial⟩, ⟨by dsimp only; omega, hGJ.trans hG5, hS, hown⟩, by dsimp only; omega⟩
      · obtain rfl : i = 8 := by omega
        obtain ⟨M8, hS, hG8, hs64⟩ := Own.give hown hS
        rw [show st.take 8 = st from List.take_of_length_le (by omega)] at hs64
        have hG18 : Grow w0.heap.size M6 M8 := hGJ.trans hG8
        refine CW.exit (Thn_x (Thn_x (Blk_x (Thn_n ?_))))
        refine CW.seq ?_
        refine CW.region ?_
        refine WL.step rfl (Stp.callG (args := []) rfl rfl rfl cal176 rfl rfl hS (qconsts_ok _ _ hS.on) ?_)
        rintro kv w MK hS hGK hkv
        refine WL.step rfl (Stp.res rfl rfl (Res.assign rfl rfl) ?_)
        refine WL.nil (Thn_n ?_)
        refine CW.seq ?_
        refine CW.seq ?_
        refine CW.region ?_
        refine WL.step rfl (Stp.res rfl rfl (Res.assign rfl rfl) ?_)
        refine WL.nil (Thn_n ?_)
        refine CW.block ?_
        refine CW.loop (σ := Nat × PH × Value) (fun s => [(2, .pointer (some ⟨b2, 0, none⟩)), (4, .pointer (some ⟨b4, 0, none⟩)), (5, wv), (12, s.2.2), (14, kv), (15, .int .i64 (s.1 : Int))])
          (fun s w' => s.1 ≤ 64 ∧ Grow w0.heap.size MK s.2.1 ∧ St w0 w' s.2.1 [(b4, .cells (ws32 (List.replicate 8 0)) 224 (0, 0))] ∧ Vs s.2.1 s.2.2 ((Sha.rounds st (Sha.wl blk 64) s.1).list.map c64)) (fun s => 64 - s.1) (0, MK, _) ⟨rfl, rfl, rfl, rfl, rfl, rfl, trivial⟩ ⟨by dsimp only; omega, Grow.refl _ _, hS, by have h := hs64.mono hGK.1; rw [Sha.of_list hst] at h; exact h⟩ ?_
        rintro ⟨t, MJ, sv⟩ w4 ⟨ht, hGJ, hS, hsv⟩
        dsimp only at ht hGJ hS hsv ⊢
        refine CW.seq ?_
        refine CW.seq ?_
        refine CW.region ?_
        refine WL.step rfl (Stp.res rfl rfl (Res.move rfl rfl) ?_)
        refine WL.step rfl (Stp.res rfl rfl (Res.lss rfl rfl rfl) ?_)
        refine WL.nil (Thn_n ?_)
        refine CW.ite rfl (fun h4 => ?_) (fun h4 => ?_)
        · have hlt : t < 64 := by omega
          generalize hR : Sha.rounds st (Sha.wl blk 64) t = R at hsv
          obtain ⟨sb, so, sc, rfl, hs1, hs2, scell⟩ := Vs.at hsv (by simp [Sha.S.list])
          have hs8 : (R.list.map c64).length = 8 := rfl
          obtain ⟨wb, wo, wc, hwe, hw1, hw2, wcell⟩ := Vs.at (hw64.mono (((hG18.trans hGK).trans hGJ).1)) (by rw [List.length_map, Sha.wl_length]; decide)
          obtain ⟨kb, ko, kc, hke, hk1, hk2, kcell⟩ := Vs.at (hkv.mono hGJ.1) (by rw [List.length_map, Sha.consts_len]; decide)
          subst hwe
          subst hke
          refine CW.skip (Thn_n ?_)
          refine CW.seq ?_
          refine CW.block ?_
          refine CW.seq ?_
          have hS := hS.drew
          refine CW.still mixed (by kernel_rfl) ?_
          refine SL.step rfl rfl rfl (Res.move rfl rfl) ?_
          refine SL.step rfl rfl rfl (Res.idxS1 (k := 0) rfl rfl rfl underlying238 sz124 rfl (by rw [hs8]; decide)) ?_
          refine SL.step rfl rfl rfl (Res.load1 (v := c64 R.a) rfl rfl underlying124 rfl (hS.cell (scell 0 _ rfl))) ?_
          refine SL.step rfl rfl rfl (Res.move rfl rfl) ?_
          refine SL.step rfl rfl rfl (Res.idxS1 (k := 4) rfl rfl rfl underlying238 sz124 rfl (by rw [hs8]; decide)) ?_
          refine SL.step rfl rfl rfl (Res.load1 (v := c64 R.e) rfl rfl underlying124 rfl (hS.cell (scell 4 _ rfl))) ?_
          refine SL.step rfl rfl rfl (Res.assign rfl rfl) ?_
          refine SL.step rfl rfl rfl (Res.assign rfl rfl) ?_
          refine SL.nil (Thn_n ?_)
          refine CW.seq ?_
          have hS := hS.drew
          refine CW.still mixed (by kernel_rfl) ?_
          refine SL.step rfl rfl rfl (Res.move rfl rfl) ?_
          refine SL.step rfl rfl rfl (Res.move rfl rfl) ?_
          refine SL.step rfl rfl rfl (Res.idxS1 (k := 5) rfl rfl rfl underlying238 sz124 rfl (by rw [hs8]; decide)) ?_
          refine SL.step rfl rfl rfl (Res.load1 (v := c64 R.f) rfl rfl underlying124 rfl (hS.cell (scell 5 _ rfl))) ?_
          refine SL.step rfl rfl rfl (Res.andC rfl rfl rfl) ?_
          refine SL.step rfl rfl rfl (Res.move rfl rfl) ?_
          refine SL.step rfl rfl rfl (Res.comC rfl rfl rfl) ?_
          refine SL.step rfl rfl rfl (Res.move rfl rfl) ?_
          refine SL.step rfl rfl rfl (Res.idxS1 (k := 6) rfl rfl rfl underlying238 sz124 rfl (by rw [hs8]; decide)) ?_
          refine SL.step rfl rfl rfl (Res.load1 (v := c64 R.g) rfl rfl underlying124 rfl (hS.cell (scell 6 _ rfl))) ?_
          refine SL.step rfl rfl rfl (Res.andC rfl rfl rfl) ?_
          refine SL.step rfl rfl rfl (Res.xorC rfl rfl rfl) ?_
          refine SL.step rfl rfl rfl (Res.assign rfl rfl) ?_
          refine SL.nil (Thn_n ?_)
          refine CW.seq ?_
          have hS := hS.drew
          refine CW.still mixed (by kernel_rfl) ?_
          refine SL.step rfl rfl rfl (Res.move rfl rfl) ?_
          refine SL.step rfl rfl rfl (Res.move rfl rfl) ?_
          refine SL.step rfl rfl rfl (Res.idxS1 (k := 1) rfl rfl rfl underlying238 sz124 rfl (by rw [hs8]; decide)) ?_
          refine SL.step rfl rfl rfl (Res.load1 (v := c64 R.b) rfl rfl underlying124 rfl (hS.cell (scell 1 _ rfl))) ?_
          refine SL.step rfl rfl rfl (Res.andC rfl rfl rfl) ?_
          refine SL.step rfl rfl rfl (Res.move rfl rfl) ?_
          refine SL.step rfl rfl rfl (Res.move rfl rfl) ?_
          refine SL.step rfl rfl rfl (Res.idxS1 (k := 2) rfl rfl rfl underlying238 sz124 rfl (by rw [hs8]; decide)) ?_
          refine SL.step rfl rfl rfl (Res.load1 (v := c64 R.c) rfl rfl underlying124 rfl (hS.cell (scell 2 _ rfl))) ?_
          refine SL.step rfl rfl rfl (Res.andC rfl rfl rfl) ?_
          refine SL.step rfl rfl rfl (Res.xorC rfl rfl rfl) ?_
          refine SL.step rfl rfl rfl (Res.move rfl rfl) ?_
          refine SL.step rfl rfl rfl (Res.idxS1 (k := 1) rfl rfl rfl underlying238 sz124 rfl (by rw [hs8]; decide)) ?_
          refine SL.step rfl rfl rfl (Res.load1 (v := c64 R.b) rfl rfl underlying124 rfl (hS.cell (scell 1 _ rfl))) ?_
          refine SL.step rfl rfl rfl (Res.move rfl rfl) ?_
          refine SL.step rfl rfl rfl (Res.idxS1 (k := 2) rfl rfl rfl underlying238 sz124 rfl (by rw [hs8]; decide)) ?_
          refine SL.step rfl rfl rfl (Res.load1 (v := c64 R.c) rfl rfl underlying124 rfl (hS.cell (scell 2 _ rfl))) ?_
          refine SL.step rfl rfl rfl (Res.andC rfl rfl rfl) ?_
          refine SL.step rfl rfl rfl (Res.xorC rfl rfl rfl) ?_
          refine SL.step rfl rfl rfl (Res.assign rfl rfl) ?_
          refine SL.nil (Thn_n ?_)
          refine CW.seq ?_
          have hS := hS.drew
          refine CW.post (fun L' w' => Sub [(2, .pointer (some ⟨b2, 0, none⟩)), (4, .pointer (some ⟨b4, 0, none⟩)), (5, .slice (some ⟨wb, wo, none⟩) ((Sha.wl blk 64).map c64).length wc), (12, .slice (some ⟨sb, so, none⟩) (R.list.map c64).length sc), (14, .slice (some ⟨kb, ko, none⟩) (Sha.consts.map c64).length kc), (15, .int .i64 (t : Int)), (16, c64 R.a), (17, c64 R.e), (19, c64 (R.a &&& R.b ^^^ R.a &&& R.c ^^^ R.b &&& R.c)), (20, c64 (Sha.t1 R (Sha.consts.getD t 0) ((Sha.wl blk 64).getD t 0)))] L' ∧ St w0 w' MJ [(b4, .cells (ws32 (List.replicate 8 0)) 224 (0, 0))]) ?_ ?_
          · have hK0 := hS.on
            refine CW.held (fun w => On MJ w) mixed ?_
            refine AL.take 0 rfl (by kernel_rfl) (by kernel_rfl) (by kernel_rfl) rfl rfl rfl hK0 (fun w hK => Res.move rfl rfl) ?_
            refine AL.take 1 rfl (by kernel_rfl) (by kernel_rfl) (by kernel_rfl) rfl rfl rfl hK0 (fun w hK => Res.idxS1 (k := 7) rfl rfl rfl underlying238 sz124 rfl (by rw [hs8]; decide)) ?_
            refine AL.take 2 rfl (by kernel_rfl) (by kernel_rfl) (by kernel_rfl) rfl rfl rfl hK0 (fun w hK => Res.load1 (v := c64 R.h) rfl rfl underlying124 rfl (w := w) (hK.st.cell (scell 7 _ rfl))) ?_
            refine AL.take 3 rfl (by kernel_rfl) (by kernel_rfl) (by kernel_rfl) rfl rfl rfl hK0 (fun w hK => Res.move rfl rfl) ?_
            refine AL.take 5 rfl (by kernel_rfl) (by kernel_rfl) (by kernel_rfl) rfl rfl rfl hK0 (fun w hK => Res.move rfl rfl) ?_
            refine AL.take 8 rfl (by kernel_rfl) (by kernel_rfl) (by kernel_rfl) rfl rfl rfl hK0 (fun w hK => Res.move rfl rfl) ?_
            refine AL.take 12 rfl (by kernel_rfl) (by kernel_rfl) (by kernel_rfl) rfl rfl rfl hK0 (fun w hK => Res.move rfl rfl) ?_
            refine AL.take 14 rfl (by kernel_rfl) (by kernel_rfl) (by kernel_rfl) rfl rfl rfl hK0 (fun w hK => Res.move rfl rfl) ?_
            refine AL.take 15 rfl (by kernel_rfl) (by kernel_rfl) (by kernel_rfl) rfl rfl rfl hK0 (fun w hK => Res.move rfl rfl) ?_
            refine AL.take 16 rfl (by kernel_rfl) (by kernel_rfl) (by kernel_rfl) rfl rfl rfl hK0 (fun w hK => Res.idxS1 (k := t) rfl rfl rfl underlying238 sz124 (Int.toNat_natCast _) (by rw [List.length_map, Sha.consts_len]; omega)) ?_
            refine AL.take 17 rfl (by kernel_rfl) (by kernel_rfl) (by kernel_rfl) rfl rfl rfl hK0 (fun w hK => Res.load1 (v := c64 (Sha.consts.getD t 0)) rfl rfl underlying124 rfl (w := w) (hK.st.cell (kcell t _ (by rw [List.getElem?_map, List.getD_eq_getElem?_getD, List.getElem?_eq_getElem (by rw [Sha.consts_len]; omega)]; rfl)))) ?_
            refine AL.take 19 rfl (by kernel_rfl) (by kernel_rfl) (by kernel_rfl) rfl rfl rfl hK0 (fun w hK => Res.move rfl rfl) ?_
            refine AL.take 20 rfl (by kernel_rfl) (by kernel_rfl) (by kernel_rfl) rfl rfl rfl hK0 (fun w hK => Res.move rfl rfl) ?_
            refine AL.take 21 rfl (by kernel_rfl) (by kernel_rfl) (by kernel_rfl) rfl rfl rfl hK0 (fun w hK => Res.idxS1 (k := t) rfl rfl rfl underlying238 sz124 (Int.toNat_natCast _) (by rw [List.length_map, Sha.wl_length]; omega)) ?_
            refine AL.take 22 rfl (by kernel_rfl) (by kernel_rfl) (by kernel_rfl) rfl rfl rfl hK0 (fun w hK => Res.load1 (v := c64 ((Sha.wl blk 64).getD t 0)) rfl rfl underlying124 rfl (w := w) (hK.st.cell (wcell t _ (by rw [List.getElem?_map, List.getD_eq_getElem?_getD, List.getElem?_eq_getElem (by rw [Sha.wl_length]; omega)]; rfl)))) ?_
            refine AL.one 4 rfl (by kernel_rfl) rfl (Stp.callG (args := [_, _]) rfl rfl rfl cal173 rfl rfl hS (qturn_ok _ 6 _ _ hS.on (by decide)) ?_)
            rintro _ w _ hS _ ⟨rfl, rfl⟩
            have hK0 := hS.on
            refine ⟨hK0, ?_⟩
            refine AL.one 6 rfl (by kernel_rfl) rfl (Stp.callG (args := [_, _]) rfl rfl rfl cal173 rfl rfl hS (qturn_ok _ 11 _ _ hS.on (by decide)) ?_)
            rintro _ w _ hS _ ⟨rfl, rfl⟩
            have hK0 := hS.on
            refine ⟨hK0, ?_⟩
            refine AL.take 7 rfl (by kernel_rfl) (by kernel_rfl) (by kernel_rfl) rfl rfl rfl hK0 (fun w hK => Res.xorC rfl rfl rfl) ?_
            refine AL.one 9 rfl (by kernel_rfl) rfl (Stp.callG (args := [_, _]) rfl rfl rfl cal173 rfl rfl hS (qturn_ok _ 25 _ _ hS.on (by decide)) ?_)
            rintro _ w _ hS _ ⟨rfl, rfl⟩
            have hK0 := hS.on
            refine ⟨hK0, ?_⟩
            refine AL.take 10 rfl (by kernel_rfl) (by kernel_rfl) (by kernel_rfl) rfl rfl rfl hK0 (fun w hK => Res.xorC rfl rfl rfl) ?_
            refine AL.take 11 rfl (by kernel_rfl) (by kernel_rfl) (by kernel_rfl) rfl rfl rfl hK0 (fun w hK => Res.addU uk64 rfl rfl rfl) ?_
            refine AL.take 13 rfl (by kernel_rfl) (by kernel_rfl) (by kernel_rfl) rfl rfl rfl hK0 (fun w hK => Res.addU uk64 rfl rfl rfl) ?_
            refine AL.take 18 rfl (by kernel_rfl) (by kernel_rfl) (by kernel_rfl) rfl rfl rfl hK0 (fun w hK => Res.addU uk64 rfl rfl rfl) ?_
            refine AL.take 23 rfl (by kernel_rfl) (by kernel_rfl) (by kernel_rfl) rfl rfl rfl hK0 (fun w hK => Res.addU uk64 rfl rfl rfl) ?_
            refine AL.one 24 rfl (by kernel_rfl) rfl (Stp.callA (args := [_]) rfl rfl rfl cal175 rfl rfl (qwrap_ok _ (Sha.t1 R (Sha.consts.getD t 0) ((Sha.wl blk 64).getD t 0)) (by rw [Sha.t1]; simp only [Sha.ofN_mod, UInt32.ofNat_add, Sha.ofN_toNat]) _) ?_)
            have hK0 := hS.on
            refine ⟨hK0, ?_⟩
            refine AL.take 25 rfl (by kernel_rfl) (by kernel_rfl) (by kernel_rfl) rfl rfl rfl hK0 (fun w hK => Res.assign rfl rfl) ?_
            refine AL.done (by kernel_rfl) (Thn_n ?_)
            exact ⟨⟨rfl, rfl, rfl, rfl, rfl, rfl, rfl, rfl, rfl, rfl, trivial⟩, hS⟩
          · rintro L2 w2 ⟨hsub, hS⟩
            refine (Thn_n (CW.sub hsub ?_))
            refine CW.seq ?_
            refine CW.region ?_
            refine WL.step rfl (Stp.res rfl rfl (Res.move rfl rfl) ?_)
            refine WL.step rfl (Stp.callG (args := [_, _]) rfl rfl rfl cal173 rfl rfl hS (qturn_ok _ 2 _ _ hS.on (by decide)) ?_)
            rintro _ w _ hS _ ⟨rfl, rfl⟩
            refine WL.step rfl (Stp.res rfl rfl (Res.move rfl rfl) ?_)
            refine WL.step rfl (Stp.callG (args := [_, _]) rfl rfl rfl cal173 rfl rfl hS (qturn_ok _ 13 _ _ hS.on (by decide)) ?_)
            rintro _ w _ hS _ ⟨rfl, rfl⟩
            refine WL.step rfl (Stp.res rfl rfl (Res.xorC rfl rfl rfl) ?_)
            refine WL.step rfl (Stp.res rfl rfl (Res.move rfl rfl) ?_)
            refine WL.step rfl (Stp.callG (args := [_, _]) rfl rfl rfl cal173 rfl rfl hS (qturn_ok _ 22 _ _ hS.on (by decide)) ?_)
            rintro _ w _ hS _ ⟨rfl, rfl⟩
            refine WL.step rfl (Stp.res rfl rfl (Res.xorC rfl rfl rfl) ?_)
            refine WL.step rfl (Stp.res rfl rfl (Res.move rfl rfl) ?_)
            refine WL.step rfl (Stp.res rfl rfl (Res.addU uk64 rfl rfl rfl) ?_)
            refine WL.step rfl (Stp.callA (args := [_]) rfl rfl rfl cal175 rfl rfl (qwrap_ok _ (Sha.t2 R) (by rw [Sha.t2]; simp only [Sha.ofN_mod, UInt32.ofNat_add, Sha.ofN_toNat]) _) ?_)
            refine WL.step rfl (Stp.res rfl rfl (Res.assign rfl rfl) ?_)
            refine WL.nil (Thn_n ?_)
            have hS := hS.drew
            have hK0 := hS.on
            refine CW.held (fun w => On MJ w) mixed ?_
            refine AL.take 0 rfl (by kernel_rfl) (by kernel_rfl) (by kernel_rfl) rfl rfl rfl hK0 (fun w hK => Res.move rfl rfl) ?_
            refine AL.take 1 rfl (by kernel_rfl) (by kernel_rfl) (by kernel_rfl) rfl rfl rfl hK0 (fun w hK => Res.move rfl rfl) ?_
            refine AL.take 2 rfl (by kernel_rfl) (by kernel_rfl) (by kernel_rfl) rfl rfl rfl hK0 (fun w hK => Res.addU uk64 rfl rfl rfl) ?_
            refine AL.take 4 rfl (by kernel_rfl) (by kernel_rfl) (by kernel_rfl) rfl rfl rfl hK0 (fun w hK => Res.move rfl rfl) ?_
            refine AL.take 5 rfl (by kernel_rfl) (by kernel_rfl) (by kernel_rfl) rfl rfl rfl hK0 (fun w hK => Res.idxS1 (k := 0) rfl rfl rfl underlying238 sz124 rfl (by rw [hs8]; decide)) ?_
            refine AL.take 6 rfl (by kernel_rfl) (by kernel_rfl) (by kernel_rfl) rfl rfl rfl hK0 (fun w hK => Res.load1 (v := c64 R.a) rfl rfl underlying124 rfl (w := w) (hK.st.cell (scell 0 _ rfl))) ?_
            refine AL.take 7 rfl (by kernel_rfl) (by kernel_rfl) (by kernel_rfl) rfl rfl rfl hK0 (fun w hK => Res.move rfl rfl) ?_
            refine AL.take 8 rfl (by kernel_rfl) (by kernel_rfl) (by kernel_rfl) rfl rfl rfl hK0 (fun w hK => Res.idxS1 (k := 1) rfl rfl rfl underlying238 sz124 rfl (by rw [hs8]; decide)) ?_
            refine AL.take 9 rfl (by kernel_rfl) (by kernel_rfl) (by kernel_rfl) rfl rfl rfl hK0 (fun w hK => Res.load1 (v := c64 R.b) rfl rfl underlying124 rfl (w := w) (hK.st.cell (scell 1 _ rfl))) ?_
            refine AL.take 10 rfl (by kernel_rfl) (by kernel_rfl) (by kernel_rfl) rfl rfl rfl hK0 (fun w hK => Res.move rfl rfl) ?_
            refine AL.take 11 rfl (by kernel_rfl) (by kernel_rfl) (by kernel_rfl) rfl rfl rfl hK0 (fun w hK => Res.idxS1 (k := 2) rfl rfl rfl underlying238 sz124 rfl (by rw [hs8]; decide)) ?_
            refine AL.take 12 rfl (by kernel_rfl) (by kernel_rfl) (by kernel_rfl) rfl rfl rfl hK0 (fun w hK => Res.load1 (v := c64 R.c) rfl rfl underlying124 rfl (w := w) (hK.st.cell (scell 2 _ rfl))) ?_
            refine AL.take 13 rfl (by kernel_rfl) (by kernel_rfl) (by kernel_rfl) rfl rfl rfl hK0 (fun w hK => Res.move rfl rfl) ?_
            refine AL.take 14 rfl (by kernel_rfl) (by kernel_rfl) (by kernel_rfl) rfl rfl rfl hK0 (fun w hK => Res.idxS1 (k := 3) rfl rfl rfl underlying238 sz124 rfl (by rw [hs8]; decide)) ?_
            refine AL.take 15 rfl (by kernel_rfl) (by kernel_rfl) (by kernel_rfl) rfl rfl rfl hK0 (fun w hK => Res.load1 (v := c64 R.d) rfl rfl underlying124 rfl (w := w) (hK.st.cell (scell 3 _ rfl))) ?_
            refine AL.take 16 rfl (by kernel_rfl) (by kernel_rfl) (by kernel_rfl) rfl rfl rfl hK0 (fun w hK => Res.move rfl rfl) ?_
            refine AL.take 17 rfl (by kernel_rfl) (by kernel_rfl) (by kernel_rfl) rfl rfl rfl hK0 (fun w hK => Res.addU uk64 rfl rfl rfl) ?_
            refine AL.take 19 rfl (by kernel_rfl) (by kernel_rfl) (by kernel_rfl) rfl rfl rfl hK0 (fun w hK => Res.move rfl rfl) ?_
            refine AL.take 20 rfl (by kernel_rfl) (by kernel_rfl) (by kernel_rfl) rfl rfl rfl hK0 (fun w hK => Res.idxS1 (k := 4) rfl rfl rfl underlying238 sz124 rfl (by rw [hs8]; decide)) ?_
            refine AL.take 21 rfl (by kernel_rfl) (by kernel_rfl) (by kernel_rfl) rfl rfl rfl hK0 (fun w hK => Res.load1 (v := c64 R.e) rfl rfl underlying124 rfl (w := w) (hK.st.cell (scell 4 _ rfl))) ?_
            refine AL.take 22 rfl (by kernel_rfl) (by kernel_rfl) (by kernel_rfl) rfl rfl rfl hK0 (fun w hK => Res.move rfl rfl) ?_
            refine AL.take 23 rfl (by kernel_rfl) (by kernel_rfl) (by kernel_rfl) rfl rfl rfl hK0 (fun w hK => Res.idxS1 (k := 5) rfl rfl rfl underlying238 sz124 rfl (by rw [hs8]; decide)) ?_
            refine AL.take 24 rfl (by kernel_rfl) (by kernel_rfl) (by kernel_rfl) rfl rfl rfl hK0 (fun w hK => Res.load1 (v := c64 R.f) rfl rfl underlying124 rfl (w := w) (hK.st.cell (scell 5 _ rfl))) ?_
            refine AL.take 25 rfl (by kernel_rfl) (by kernel_rfl) (by kernel_rfl) rfl rfl rfl hK0 (fun w hK => Res.move rfl rfl) ?_
            refine AL.take 26 rfl (by kernel_rfl) (by kernel_rfl) (by kernel_rfl) rfl rfl rfl hK0 (fun w hK => Res.idxS1 (k := 6) rfl rfl rfl underlying238 sz124 rfl (by rw [hs8]; decide)) ?_
            refine AL.take 27 rfl (by kernel_rfl) (by kernel_rfl) (by kernel_rfl) rfl rfl rfl hK0 (fun w hK => Res.load1 (v := c64 R.g) rfl rfl underlying124 rfl (w := w) (hK.st.cell (scell 6 _ rfl))) ?_
            refine AL.one 3 rfl (by kernel_rfl) rfl (Stp.callA (args := [_]) rfl rfl rfl cal175 rfl rfl (qwrap_ok _ ((Sha.t1 R (Sha.consts.getD t 0) ((Sha.wl blk 64).getD t 0)) + Sha.t2 R) (by simp only [Sha.ofN_mod, UInt32.ofNat_add, Sha.ofN_toNat]) _) ?_)
            skip
            refine ⟨hK0, ?_⟩
            refine AL.one 18 rfl (by kernel_rfl) rfl (Stp.callA (args := [_]) rfl rfl rfl cal175 rfl rfl (qwrap_ok _ (R.d + (Sha.t1 R (Sha.consts.getD t 0) ((Sha.wl blk 64).getD t 0))) (by simp only [Sha.ofN_mod, UInt32.ofNat_add, Sha.ofN_toNat]) _) ?_)
            skip
            refine ⟨hK0, ?_⟩
            refine AL.one 28 rfl (by kernel_rfl) rfl (Stp.lit (vals := [(0, c64 ((Sha.t1 R (Sha.consts.getD t 0) ((Sha.wl blk 64).getD t 0)) + Sha.t2 R)), (1, c64 R.a), (2, c64 R.b), (3, c64 R.c), (4, c64 (R.d + (Sha.t1 R (Sha.consts.getD t 0) ((Sha.wl blk 64).getD t 0)))), (5, c64 R.e), (6, c64 R.f), (7, c64 R.g)]) (cs := #[c64 ((Sha.t1 R (Sha.consts.getD t 0) ((Sha.wl blk 64).getD t 0)) + Sha.t2 R), c64 R.a, c64 R.b, c64 R.c, c64 (R.d + (Sha.t1 R (Sha.consts.getD t 0) ((Sha.wl blk 64).getD t 0))), c64 R.e, c64 R.f, c64 R.g]) (e := 124) rfl rfl (fun _ => by kernel_rfl) rfl rfl hS ?_)
            intro b224 w hb224 hS hkp hnw
            have hF := hS.freezeG (i := 0) rfl hb224
            obtain ⟨M7, hG7, hsv2, hS⟩ : ∃ M7, Grow w0.heap.size MJ M7 ∧ Vs M7 (.slice (some ⟨b224, 0, none⟩) 8 8) ((Sha.step R (Sha.consts.getD t 0) ((Sha.wl blk 64).getD t 0)).list.map c64) ∧ St w0 w M7 [(b4, .cells (ws32 (List.replicate 8 0)) 224 (0, 0))] := ⟨_, hF.2, Vs.of (PH.add_self _ _ _) rfl rfl (by decide), hF.1⟩
            have hK0 : On MJ w := (hS.known hG7.1).on
            refine ⟨hK0, ?_⟩
            refine AL.take 29 rfl (by kernel_rfl) (by kernel_rfl) (by kernel_rfl) rfl rfl rfl hK0 (fun w hK => Res.assign rfl rfl) ?_
            refine AL.done (by kernel_rfl) (Blk_n (Thn_n ?_))
            refine CW.region ?_
            refine WL.step rfl (Stp.res rfl rfl (Res.move rfl rfl) ?_)
            refine WL.step rfl (Stp.res rfl rfl (Res.add rfl rfl rfl (by omega)) ?_)
            refine WL.step rfl (Stp.res rfl rfl (Res.assign rfl rfl) ?_)
            refine WL.nil (Thn_n ?_)
            exact ⟨(t + 1, M7, _), ⟨rfl, rfl, rfl, rfl, rfl, rfl, trivial⟩, ⟨by dsimp only; omega, hGJ.trans hG7, hS, by rw [Sha.rounds, hR]; exact hsv2⟩, by dsimp only; omega⟩
        · obtain rfl : t = 64 := by omega
          generalize hR : Sha.rounds st (Sha.wl blk 64) 64 = R at hsv
          have hbs3 := (hG18.trans hGK).1 _ _ hbs2
          refine CW.exit (Thn_x (Thn_x (Blk_x (Thn_n ?_))))
          refine CW.seq ?_
          refine CW.region ?_
          refine WL.step rfl (Stp.res rfl rfl (Res.build (vals := []) (cs := ws32 (List.replicate 8 0)) rfl rfl (fun _ => by kernel_rfl)) ?_)
          refine WL.step rfl (Stp.alloc (cs := ws32 (List.replicate 8 0)) rfl z224 rfl rfl rfl hS ?_)
          intro b22 w hb22 hS hkp hnw
          refine WL.step rfl (Stp.storeAllW32 0 rfl rfl rfl sz224 rfl hS rfl ⟨List.length_replicate .., List.length_replicate ..⟩ ?_)
          intro w hS hpt
          refine WL.nil (Thn_n ?_)
          refine CW.seq ?_
          refine CW.seq ?_
          refine CW.region ?_
          refine WL.step rfl (Stp.res rfl rfl (Res.assign rfl rfl) ?_)
          refine WL.nil (Thn_n ?_)
          refine CW.block ?_
          refine CW.loop (σ := Nat) (fun i => [(2, .pointer (some ⟨b2, 0, none⟩)), (4, .pointer (some ⟨b4, 0, none⟩)), (12, sv), (22, .pointer (some ⟨b22, 0, none⟩)), (23, .int .i64 (i : Int))])
            (fun i w' => i ≤ 8 ∧ St w0 w' MJ [(b22, .cells (ws32 (Sha.sumZ st R.list i)) 224 (0, 0)), (b4, .cells (ws32 (List.replicate 8 0)) 224 (0, 0))]) (fun i => 8 - i) 0 ⟨rfl, rfl, rfl, rfl, rfl, trivial⟩ ⟨by omega, hS⟩ ?_
          rintro i w5 ⟨hi, hS⟩
          refine CW.seq ?_
          refine CW.seq ?_
          refine CW.region ?_
          refine WL.step rfl (Stp.res rfl rfl (Res.move rfl rfl) ?_)
          refine WL.step rfl (Stp.res rfl rfl (Res.lss rfl rfl rfl) ?_)
          refine WL.nil (Thn_n ?_)
          refine CW.ite rfl (fun h5 => ?_) (fun h5 => ?_)
          · have hlt : i < 8 := by omega
            obtain ⟨sb, so, sc, hse, hs1, hs2, scell⟩ := Vs.at hsv (by simp [Sha.S.list])
            subst hse
            have hs8 : (R.list.map c64).length = 8 := rfl
            refine CW.skip (Thn_n ?_)
            refine CW.seq ?_
            refine CW.block ?_
            have hS := hS.drew
            have hK0 := hS.on
            refine CW.held (fun w => On MJ w) mixed ?_
            refine AL.take 0 rfl (by kernel_rfl) (by kernel_rfl) (by kernel_rfl) rfl rfl rfl hK0 (fun w hK => Res.move rfl rfl) ?_
            refine AL.take 1 rfl (by kernel_rfl) (by kernel_rfl) (by kernel_rfl) rfl rfl rfl hK0 (fun w hK => Res.move rfl rfl) ?_
            refine AL.take 2 rfl (by kernel_rfl) (by kernel_rfl) (by kernel_rfl) rfl rfl rfl hK0 (fun w hK => Res.move rfl rfl) ?_
            refine AL.take 3 rfl (by kernel_rfl) (by kernel_rfl) (by kernel_rfl) rfl rfl rfl hK0 (fun w hK => Res.idxS1 (k := i) rfl rfl rfl underlying238 sz124 (Int.toNat_natCast _) (by rw [hs8]; omega)) ?_
            refine AL.take 4 rfl (by kernel_rfl) (by kernel_rfl) (by kernel_rfl) rfl rfl rfl hK0 (fun w hK => Res.load1 (v := c64 (R.list.getD i 0)) rfl rfl underlying124 rfl (w := w) (hK.st.cell (scell i _ (by rw [List.getElem?_map, List.getD_eq_getElem?_getD, List.getElem?_eq_getElem (by show i < 8; omega)]; rfl)))) ?_
            refine AL.take 5 rfl (by kernel_rfl) (by kernel_rfl) (by kernel_rfl) rfl rfl rfl hK0 (fun w hK => Res.move rfl rfl) ?_
            refine AL.take 6 rfl (by kernel_rfl) (by kernel_rfl) (by kernel_rfl) rfl rfl rfl hK0 (fun w hK => Res.idxA0 (k := i) rfl rfl rfl underlying224 sz223 (by omega) (by omega)) ?_
            refine AL.take 7 rfl (by kernel_rfl) (by kernel_rfl) (by kernel_rfl) rfl rfl rfl hK0 (fun w hK => Res.load1 (v := w32 (st.getD i 0)) rfl rfl underlying223 rfl (w := w) (hK.st.cell (PH.cell_of (hGJ.1 _ _ hbs3) (ws32_get (by omega))))) ?_
            refine AL.take 8 rfl (by kernel_rfl) (by kernel_rfl) (by kernel_rfl) rfl rfl rfl hK0 (fun w hK => Res.cast (Res.convW (a := (st.getD i 0).toNat) uk64 rfl rfl underlying223 underlying124 (lt64 _)) (v' := c64 (st.getD i 0)) rfl) ?_
            refine AL.take 9 rfl (by kernel_rfl) (by kernel_rfl) (by kernel_rfl) rfl rfl rfl hK0 (fun w hK => Res.addU uk64 rfl rfl rfl) ?_
            refine AL.one 10 rfl (by kernel_rfl) rfl (Stp.callA (args := [_]) rfl rfl rfl cal175 rfl rfl (qwrap_ok _ (st.getD i 0 + R.list.getD i 0) (by simp only [Sha.ofN_mod, UInt32.ofNat_add, Sha.ofN_toNat]; ac_rfl) _) ?_)
            skip
            refine ⟨hK0, ?_⟩
            refine AL.take 11 rfl (by kernel_rfl) (by kernel_rfl) (by kernel_rfl) rfl rfl rfl hK0 (fun w hK => Res.cast (Res.convW (a := (st.getD i 0 + R.list.getD i 0).toNat) uk32 rfl rfl underlying124 underlying223 (UInt32.toNat_lt _)) (v' := w32 (st.getD i 0 + R.list.getD i 0)) rfl) ?_
            refine AL.take 12 rfl (by kernel_rfl) (by kernel_rfl) (by kernel_rfl) rfl rfl rfl hK0 (fun w hK => Res.idxA0 (k := i) rfl rfl rfl underlying224 sz223 (by omega) (by omega)) ?_
            refine AL.one 13 rfl (by kernel_rfl) rfl (Stp.storeW32 0 rfl rfl rfl sz223 rfl hS rfl (by rw [Sha.sumZ_length]; omega) ?_)
            intro w hS hpt
            have hK0 : On MJ w := hS.on
            refine ⟨hK0, ?_⟩
            refine AL.done (by kernel_rfl) (Blk_n (Thn_n ?_))
            refine CW.region ?_
            refine WL.step rfl (Stp.res rfl rfl (Res.move rfl rfl) ?_)
            refine WL.step rfl (Stp.res rfl rfl (Res.add rfl rfl rfl (by omega)) ?_)
            refine WL.step rfl (Stp.res rfl rfl (Res.assign rfl rfl) ?_)
            refine WL.nil (Thn_n ?_)
            exact ⟨i + 1, ⟨rfl, rfl, rfl, rfl, rfl, trivial⟩, ⟨by omega, hS⟩, by omega⟩
          · obtain rfl : i = 8 := by omega
            refine CW.exit (Thn_x (Thn_x (Blk_x (Thn_n ?_))))
            refine CW.seq ?_
            refine CW.region ?_
            refine WL.step rfl (Stp.res rfl rfl (Res.loadAll rfl rfl underlying224 rfl (by rw [size_ws32, Sha.sumZ_length]; exact sz224) (hS.get (i := 0) rfl)) ?_)
            refine WL.step rfl (Stp.storeAllW32 1 rfl rfl rfl sz224 rfl hS rfl ⟨List.length_replicate .., Sha.sumZ_length ..⟩ ?_)
            intro w hS hpt
            refine WL.nil (Thn_n ?_)
            refine CW.ret ?_
            have hGA := ((hG16.trans hG18).trans hGK).trans hGJ
            exact fq_cell rfl rfl (hS.get (i := 1) rfl) underlying224 rfl (by rw [size_ws32, Sha.sumZ_length]; exact sz224) ⟨M, ((hS.drop (i := 0) rfl hb22).drop (i := 0) rfl hb4).known (hG1.trans hGA).1, PH.le.refl _, Fresh.refl _ _, rfl, by rw [Sha.sumZ_all _ hst, Sha.block, hR]⟩
end Go.Proofs.YtcmgimicdcchlaaGreatDoor
set_option linter.unusedVariables false
set_option maxRecDepth 20000
namespace Go.Proofs.YtcmgimicdcchlaaGreatDoor
open Go.Proofs.Tryz
open Go Go.E
theorem qpad_ok (v : Value) (l : List UInt8) (w0 : World) (M : PH) (hM : On M w0) (hv : Bs M v l) (hlen : l.length ≤ 1099511627776) : Ok Tryz.prog 164 #[v] w0 M (fun M' r => Bs M' r (Sha.pad l)) := by
  have hS := hM.st
  have hv0 := hv
  obtain ⟨va, vc, rfl, v1, v2, v3, v4⟩ := hv
  have hN := Sha.padN_ge l.length
  refine enterB (l := [.slice va l.length vc]) 39 func164 rfl ntmps164 rfl ?_
  refine CW.seq ?_
  refine CW.region ?_
  refine WL.step rfl (Stp.res rfl rfl (Res.assign rfl rfl) ?_)
  refine WL.nil (Thn_n ?_)
  refine CW.seq ?_
  refine CW.region ?_
  refine WL.step rfl (Stp.lit (vals := []) (cs := bs []) (e := 5) rfl rfl (fun _ => by kernel_rfl) rfl rfl hS ?_)
  intro b7 w hb7 hS hkp hnw
  refine WL.step rfl (Stp.res rfl rfl (Res.move rfl rfl) ?_)
  refine WL.step rfl (Stp.appendB (l := []) (r := l) rfl rfl rfl rfl et30 (Src.ofBs underlying30 hS hv0) hS (OwnB.of hb7 (Nat.le_refl 0) (by omega) [] rfl rfl) (by simp; omega) rfl rfl ?_)
  intro av w g1 hS hown
  refine WL.step rfl (Stp.lit (vals := [(0, byte 128)]) (cs := bs [128]) (e := 5) rfl rfl (fun _ => by kernel_rfl) rfl rfl hS ?_)
  intro b10 w hb10 hS hkp hnw
  have hF := hS.freezeG (i := 0) rfl hb10
  obtain ⟨M1, hG1, hL1, hS⟩ : ∃ M1, Grow w0.heap.size M M1 ∧ Bs M1 (.slice (some ⟨b10, 0, none⟩) 1 1) [128] ∧ St w0 w M1 (g1 ++ []) := ⟨_, hF.2, Bs.of' (PH.add_self _ _ _) rfl (by decide), hF.1⟩
  refine WL.step rfl (Stp.appendB (l := [] ++ l) (r := [128]) rfl rfl rfl rfl et30 (Src.ofBs underlying30 hS hL1) hS hown (by simp; omega) rfl rfl ?_)
  intro av w g2 hS hown
  rw [show [] ++ l ++ [128] = Sha.padZ l 0 by simp [Sha.padZ]] at hown
  refine WL.step rfl (Stp.res rfl rfl (Res.assign rfl rfl) ?_)
  refine WL.nil (Thn_n ?_)
  refine CW.seq ?_
  refine CW.block ?_
  refine CW.loop (σ := Nat × PH × Value × Owned) (fun s => [(0, .slice va l.length vc), (3, s.2.2.1)])
    (fun s w' => s.1 ≤ (Sha.padN l.length - l.length - 9) ∧ Grow w0.heap.size M1 s.2.1 ∧ St w0 w' s.2.1 (s.2.2.2 ++ []) ∧ OwnB w0.heap.size s.2.2.2 s.2.2.1 (Sha.padZ l s.1) 5) (fun s => (Sha.padN l.length - l.length - 9) - s.1) (0, M1, _, _) ⟨rfl, rfl, trivial⟩ ⟨by dsimp only; omega, Grow.refl _ _, hS, hown⟩ ?_
  rintro ⟨k, MJ, vj, gj⟩ w1 ⟨hk, hGJ, hS, hown⟩
  dsimp only at hk hGJ hS hown ⊢
  have hpz := Sha.padZ_length l k
  obtain ⟨ob, rest, cp, hob, rfl, rfl, hc1, hc2⟩ := hown.gb (by omega)
  refine CW.seq ?_
  refine CW.seq ?_
  refine CW.region ?_
  refine WL.step rfl (Stp.res rfl rfl (Res.move rfl rfl) ?_)
  refine WL.step rfl (Stp.res rfl rfl (Res.len rfl rfl rfl rfl underlying30) ?_)
  refine WL.step rfl (Stp.res rfl rfl (Res.cast (Res.rem rfl rfl rfl (by omega)) (v' := .int .i64 (((l.length + 1 + k) % 64 : Nat) : Int)) (by congr 1; rw [Sha.padZ_length]; omega)) ?_)
  refine WL.step rfl (Stp.res rfl rfl (Res.neq rfl rfl rfl) ?_)
  refine WL.nil (Thn_n ?_)
  refine CW.ite rfl (fun h => ?_) (fun h => ?_)
  · have hlt : k < (Sha.padN l.length - l.length - 9) := by omega
    refine CW.skip (Thn_n ?_)
    refine CW.block ?_
    refine CW.region ?_
    refine WL.step rfl (Stp.res rfl rfl (Res.move rfl rfl) ?_)
    refine WL.step rfl (Stp.lit (vals := [(0, byte 0)]) (cs := bs [0]) (e := 5) rfl rfl (fun _ => by kernel_rfl) rfl rfl hS ?_)
    intro b17 w hb17 hS hkp hnw
    have hF := hS.freezeG (i := 0) rfl hb17
    obtain ⟨M5, hG5, hL5, hS⟩ : ∃ M5, Grow w0.heap.size MJ M5 ∧ Bs M5 (.slice (some ⟨b17, 0, none⟩) 1 1) [0] ∧ St w0 w M5 ([(ob, .cells (Gb (Sha.padZ l k) rest) 5 (0, 0))] ++ []) := ⟨_, hF.2, Bs.of' (PH.add_self _ _ _) rfl (by decide), hF.1⟩
    refine WL.step rfl (Stp.appendB (l := Sha.padZ l k) (r := [0]) rfl rfl rfl rfl et30 (Src.ofBs underlying30 hS hL5) hS hown (by simp; omega) rfl rfl ?_)
    intro av w g2 hS hown
    rw [Sha.padZ_succ] at hown
    refine WL.step rfl (Stp.res rfl rfl (Res.assign rfl rfl) ?_)
    refine WL.nil (Blk_n (Thn_n ?_))
    exact ⟨(k + 1, M5, av, g2), ⟨rfl, rfl, trivial⟩, ⟨by dsimp only; omega, hGJ.trans hG5, hS, hown⟩, by dsimp only; omega⟩
  · obtain rfl : k = (Sha.padN l.length - l.length - 9) := by omega
    refine CW.exit (Thn_x (Thn_x (Blk_x (Thn_n ?_))))
    refine CW.seq ?_
    refine CW.region ?_
    refine WL.step rfl (Stp.res rfl rfl (Res.move rfl rfl) ?_)
    refine WL.step rfl (Stp.res rfl rfl (Res.len rfl rfl rfl rfl underlying30) ?_)
    refine WL.step rfl (Stp.res rfl rfl (Res.convW (a := l.length) uk64 rfl rfl underlying3 underlying124 (by omega)) ?_)
    refine WL.step rfl (Stp.res rfl rfl (Res.cast (Res.mulU (a := l.length) (b := 8) uk64 rfl rfl rfl) (v' := .int .u64 ((l.length * 8 / 256 ^ 0 : Nat) : Int)) (by congr 2; omega)) ?_)
    refine WL.step rfl (Stp.res rfl rfl (Res.assign rfl rfl) ?_)
    refine WL.nil (Thn_n ?_)
    refine CW.seq ?_
    refine CW.region ?_
    refine WL.step rfl (Stp.makeB (k := 8) (c := 8) rfl rfl rfl et30 ⟨Nat.le_refl 8, by decide⟩ rfl rfl hS ?_)
    intro b23 w hb23 hS hkp hnw
    refine WL.step rfl (Stp.res rfl rfl (Res.assign rfl rfl) ?_)
    refine WL.nil (Thn_n ?_)
    refine CW.seq ?_
    refine CW.seq ?_
    refine CW.region ?_
    refine WL.step rfl (Stp.res rfl rfl (Res.assign rfl rfl) ?_)
    refine WL.nil (Thn_n ?_)
    refine CW.block ?_
    refine CW.loop (σ := Nat) (fun k => [(3, .slice (some ⟨ob, 0, none⟩) (Sha.padZ l (Sha.padN l.length - l.length - 9)).length cp), (4, .int .u64 ((l.length * 8 / 256 ^ k : Nat) : Int)), (5, .slice (some ⟨b23, 0, none⟩) 8 8), (6, .int .i64 (7 - (k : Int)))])
      (fun k w' => k ≤ 8 ∧ St w0 w' MJ [(b23, .cells (bs (Sha.tailK (l.length * 8) k)) 5 (0, 0)), (ob, .cells (Gb (Sha.padZ l (Sha.padN l.length - l.length - 9)) rest) 5 (0, 0))]) (fun k => 8 - k) 0 ⟨rfl, rfl, rfl, intc (by omega), trivial⟩ ⟨by omega, hS⟩ ?_
    rintro k w2 ⟨hk, hS⟩
    refine CW.seq ?_
    refine CW.seq ?_
    refine CW.region ?_
    refine WL.step rfl (Stp.res rfl rfl (Res.move rfl rfl) ?_)
    refine WL.step rfl (Stp.res rfl rfl (Res.geq rfl rfl rfl) ?_)
    refine WL.nil (Thn_n ?_)
    refine CW.ite rfl (fun h2 => ?_) (fun h2 => ?_)
    · have hlt : k < 8 := by omega
      refine CW.skip (Thn_n ?_)
      refine CW.seq ?_
      refine CW.block ?_
      refine CW.seq ?_
      refine CW.region ?_
      refine WL.step rfl (Stp.res rfl rfl (Res.move rfl rfl) ?_)
      refine WL.step rfl (Stp.res rfl rfl (Res.move rfl rfl) ?_)
      refine WL.step rfl (Stp.res rfl rfl (Res.move rfl rfl) ?_)
      refine WL.step rfl (Stp.res rfl rfl (Res.remU (a := l.length * 8 / 256 ^ k) (b := 256) rfl rfl rfl (by decide)) ?_)
      refine WL.step rfl (Stp.res rfl rfl (Res.convB (k := l.length * 8 / 256 ^ k % 256) rfl rfl underlying124 underlying5) ?_)
      refine WL.step rfl (Stp.res rfl rfl (Res.idxS0 (k := 7 - k) rfl rfl rfl underlying30 sz5 (by omega) (by omega)) ?_)
      refine WL.step rfl (Stp.storeB 0 rfl rfl rfl sz5 rfl hS rfl (by rw [Sha.tailK_length _ hk]; omega) ?_)
      intro w hS hpt
      rw [Sha.tailK_step _ hlt] at hS
      refine WL.nil (Thn_n ?_)
      refine CW.region ?_
      refine WL.step rfl (Stp.res rfl rfl (Res.move rfl rfl) ?_)
      refine WL.step rfl (Stp.res rfl rfl (Res.quoU (a := l.length * 8 / 256 ^ k) (b := 256) uk64 rfl rfl rfl ⟨by decide, Nat.lt_of_le_of_lt (Nat.div_le_self _ _) (by omega)⟩) ?_)
      refine WL.step rfl (Stp.res rfl rfl (Res.assign rfl rfl) ?_)
      refine WL.nil (Blk_n (Thn_n ?_))
      refine CW.region ?_
      refine WL.step rfl (Stp.res rfl rfl (Res.move rfl rfl) ?_)
      refine WL.step rfl (Stp.res rfl rfl (Res.sub rfl rfl rfl (by omega)) ?_)
      refine WL.step rfl (Stp.res rfl rfl (Res.assign rfl rfl) ?_)
      refine WL.nil (Thn_n ?_)
      exact ⟨k + 1, ⟨rfl, intc (by rw [Nat.pow_succ, ← Nat.div_div_eq_div_mul]), rfl, intc (by omega), trivial⟩, ⟨by omega, hS⟩, by omega⟩
    · obtain rfl : k = 8 := by omega
      refine CW.exit (Thn_x (Thn_x (Blk_x (Thn_n ?_))))
      refine CW.seq ?_
      have hF := hS.freezeG (i := 0) rfl hb23
      obtain ⟨M6, hG6, htail, hS⟩ : ∃ M6, Grow w0.heap.size MJ M6 ∧ Bs M6 (.slice (some ⟨b23, 0, none⟩) 8 8) (Sha.be (l.length * 8) 8) ∧ St w0 w2 M6 ([(ob, .cells (Gb (Sha.padZ l (Sha.padN l.length - l.length - 9)) rest) 5 (0, 0))] ++ []) := ⟨_, hF.2, Bs.of' (PH.add_self _ _ _) (Sha.be_length _ _) (by omega), hF.1⟩
      refine CW.region ?_
      refine WL.step rfl (Stp.res rfl rfl (Res.move rfl rfl) ?_)
      refine WL.step rfl (Stp.res rfl rfl (Res.move rfl rfl) ?_)
      refine WL.step rfl (Stp.appendB (l := Sha.padZ l (Sha.padN l.length - l.length - 9)) (r := Sha.be (l.length * 8) 8) rfl rfl rfl rfl et30 (Src.ofBs underlying30 hS htail) hS (OwnB.ofGb hob hc1 hc2) (by simp; omega) rfl rfl ?_)
      intro fv w g3 hS hown
      refine WL.step rfl (Stp.res rfl rfl (Res.assign rfl rfl) ?_)
      refine WL.nil (Thn_n ?_)
      refine CW.ret ?_
      obtain ⟨M7, hS, hle7, hfr7, hfin⟩ := hown.give hS
      have hGA := ((hG1.trans hGJ).trans hG6).trans ⟨hle7, hfr7⟩
      exact fq_tmp rfl rfl ⟨M7, hS, hGA.1, hGA.2, hfin⟩
end Go.Proofs.YtcmgimicdcchlaaGreatDoor
set_option linter.unusedVariables false
set_option maxRecDepth 20000
namespace Go.Proofs.YtcmgimicdcchlaaGreatDoor
open Go.Proofs.Tryz
open Go Go.E
theorem qsum_ok (v : Value) (l : List UInt8) (w0 : World) (M : PH) (hM : On M w0) (hv : Bs M v l) (hlen : l.length ≤ 1099511627776) : Ok Tryz.prog 144 #[v] w0 M (fun M' r => M = M' ∧ r = .agg (bs (Sha.sum l))) := by
  have hS := hM.st
  have hN := Sha.padN_ge l.length
  have hPl := Sha.pad_length l
  refine enterB (l := [v]) 60 func144 rfl ntmps144 rfl ?_
  refine CW.seq ?_
  refine CW.region ?_
  refine WL.step rfl (Stp.alloc (cs := bs (List.replicate 32 0)) rfl z143 rfl rfl rfl hS ?_)
  intro b2 w hb2 hS hkp hnw
  refine WL.nil (Thn_n ?_)
  refine CW.seq ?_
  refine CW.region ?_
  refine WL.step rfl (Stp.callG (args := []) rfl rfl rfl cal163 rfl rfl hS (qfirst_ok _ _ hS.on) ?_)
  rintro _ w _ hS _ ⟨rfl, rfl⟩
  refine WL.step rfl (Stp.alloc (cs := ws32 (List.replicate 8 0)) rfl z224 rfl rfl rfl hS ?_)
  intro b3 w hb3 hS hkp hnw
  refine WL.step rfl (Stp.storeAllW32 0 rfl rfl rfl sz224 rfl hS rfl ⟨List.length_replicate .., rfl⟩ ?_)
  intro w hS hpt
  refine WL.nil (Thn_n ?_)
  refine CW.seq ?_
  refine CW.region ?_
  refine WL.step rfl (Stp.res rfl rfl (Res.move rfl rfl) ?_)
  refine WL.step rfl (Stp.callG (args := [_]) rfl rfl rfl cal164 rfl rfl hS (qpad_ok _ l _ _ hS.on hv hlen) ?_)
  rintro pv w MP hS hGP hvP
  obtain ⟨pb, po, pc, rfl, p1, p2, pcell⟩ := hvP.at (by omega)
  refine WL.step rfl (Stp.res rfl rfl (Res.assign rfl rfl) ?_)
  refine WL.nil (Thn_n ?_)
  refine CW.seq ?_
  refine CW.seq ?_
  refine CW.region ?_
  refine WL.step rfl (Stp.res rfl rfl (Res.assign rfl rfl) ?_)
  refine WL.nil (Thn_n ?_)
  refine CW.block ?_
  refine CW.loop (σ := Nat) (fun m => [(2, .pointer (some ⟨b2, 0, none⟩)), (3, .pointer (some ⟨b3, 0, none⟩)), (4, .slice (some ⟨pb, po, none⟩) (Sha.pad l).length pc), (5, .int .i64 ((64 * m : Nat) : Int))])
    (fun m w' => 64 * m ≤ Sha.padN l.length ∧ St w0 w' MP [(b3, .cells (ws32 (Sha.digest Sha.first (Sha.pad l) m)) 224 (0, 0)), (b2, .cells (bs (List.replicate 32 0)) 143 (0, 0))]) (fun m => Sha.padN l.length - 64 * m) 0 ⟨rfl, rfl, rfl, rfl, trivial⟩ ⟨by omega, hS⟩ ?_
  rintro m w1 ⟨hm, hS⟩
  refine CW.seq ?_
  refine CW.seq ?_
  refine CW.region ?_
  refine WL.step rfl (Stp.res rfl rfl (Res.move rfl rfl) ?_)
  refine WL.step rfl (Stp.res rfl rfl (Res.move rfl rfl) ?_)
  refine WL.step rfl (Stp.res rfl rfl (Res.len rfl rfl rfl rfl underlying30) ?_)
  refine WL.step rfl (Stp.res rfl rfl (Res.lss rfl rfl rfl) ?_)
  refine WL.nil (Thn_n ?_)
  refine CW.ite rfl (fun h => ?_) (fun h => ?_)
  · have hlt : 64 * m + 64 ≤ Sha.padN l.length := by omega
    refine CW.skip (Thn_n ?_)
    refine CW.seq ?_
    refine CW.block ?_
    refine CW.seq ?_
    refine CW.region ?_
    refine WL.step rfl (Stp.res rfl rfl (Res.build (vals := []) (cs := bs (List.replicate 64 0)) rfl rfl (fun _ => by kernel_rfl)) ?_)
    refine WL.step rfl (Stp.alloc (cs := bs (List.replicate 64 0)) rfl z222 rfl rfl rfl hS ?_)
    intro b6 w hb6 hS hkp hnw
    refine WL.step rfl (Stp.storeAllB 0 rfl rfl rfl sz222 rfl hS rfl ⟨List.length_replicate .., List.length_replicate ..⟩ ?_)
    intro w hS hpt
    refine WL.nil (Thn_n ?_)
    refine CW.seq ?_
    refine CW.seq ?_
    refine CW.region ?_
    refine WL.step rfl (Stp.res rfl rfl (Res.assign rfl rfl) ?_)
    refine WL.nil (Thn_n ?_)
    refine CW.block ?_
    refine CW.loop (σ := Nat) (fun k => [(2, .pointer (some ⟨b2, 0, none⟩)), (3, .pointer (some ⟨b3, 0, none⟩)), (4, .slice (some ⟨pb, po, none⟩) (Sha.pad l).length pc), (5, .int .i64 ((64 * m : Nat) : Int)), (6, .pointer (some ⟨b6, 0, none⟩)), (7, .int .i64 (k : Int))])
      (fun k w' => k ≤ 64 ∧ St w0 w' MP ((b6, .cells (bs (Aes.upTo k (fun j => (Sha.pad l).getD (64 * m + j) 0) (List.replicate 64 0))) 222 (0, 0)) :: [(b3, .cells (ws32 (Sha.digest Sha.first (Sha.pad l) m)) 224 (0, 0)), (b2, .cells (bs (List.replicate 32 0)) 143 (0, 0))])) (fun k => 64 - k) 0 ⟨rfl, rfl, rfl, rfl, rfl, rfl, trivial⟩ ⟨by omega, by rw [Aes.upTo_zero]; exact hS⟩ ?_
    rintro k w2 ⟨hk, hS⟩
    refine CW.seq ?_
    refine CW.seq ?_
    refine CW.region ?_
    refine WL.step rfl (Stp.res rfl rfl (Res.move rfl rfl) ?_)
    refine WL.step rfl (Stp.res rfl rfl (Res.lss rfl rfl rfl) ?_)
    refine WL.nil (Thn_n ?_)
    refine CW.ite rfl (fun h2 => ?_) (fun h2 => ?_)
    · have hlt2 : k < 64 := by omega
      refine CW.skip (Thn_n ?_)
      refine CW.seq ?_
      refine CW.block ?_
      refine CW.region ?_
      refine WL.step rfl (Stp.res rfl rfl (Res.move rfl rfl) ?_)
      refine WL.step rfl (Stp.res rfl rfl (Res.move rfl rfl) ?_)
      refine WL.step rfl (Stp.res rfl rfl (Res.move rfl rfl) ?_)
      refine WL.step rfl (Stp.res rfl rfl (Res.move rfl rfl) ?_)
      refine WL.step rfl (Stp.res rfl rfl (Res.add rfl rfl rfl (by omega)) ?_)
      refine WL.step rfl (Stp.res rfl rfl (Res.idxS1 (k := 64 * m + k) rfl rfl rfl underlying30 sz5 (by omega) (by omega)) ?_)
      refine WL.step rfl (Stp.res rfl rfl (Res.load1 (v := byte ((Sha.pad l).getD (64 * m + k) 0)) rfl rfl underlying5 rfl (hS.cell (pcell _ (by omega)))) ?_)
      refine WL.step rfl (Stp.res rfl rfl (Res.idxA0 (k := k) rfl rfl rfl underlying222 sz5 (by omega) (by omega)) ?_)
      refine WL.step rfl (Stp.storeB 0 rfl rfl rfl sz5 rfl hS rfl (by simp; omega) ?_)
      intro w hS hpt
      rw [show ((Aes.upTo k (fun j => (Sha.pad l).getD (64 * m + j) 0) (List.replicate 64 0)).set k ((Sha.pad l).getD (64 * m + k) 0)) = Aes.upTo (k + 1) (fun j => (Sha.pad l).getD (64 * m + j) 0) (List.replicate 64 0) from Aes.upTo_set ..] at hS
      refine WL.nil (Blk_n (Thn_n ?_))
      refine CW.region ?_
      refine WL.step rfl (Stp.res rfl rfl (Res.move rfl rfl) ?_)
      refine WL.step rfl (Stp.res rfl rfl (Res.add rfl rfl rfl (by omega)) ?_)
      refine WL.step rfl (Stp.res rfl rfl (Res.assign rfl rfl) ?_)
      refine WL.nil (Thn_n ?_)
      exact ⟨k + 1, ⟨rfl, rfl, rfl, rfl, rfl, rfl, trivial⟩, ⟨by omega, hS⟩, by omega⟩
    · obtain rfl : k = 64 := by omega
      refine CW.exit (Thn_x (Thn_x (Blk_x (Thn_n ?_))))
      rw [Aes.upTo_all _ _ 64 (List.length_replicate ..), Sha.blk_of (by omega)] at hS
      refine CW.region ?_
      refine WL.step rfl (Stp.res rfl rfl (Res.loadAll rfl rfl underlying224 rfl (by rw [size_ws32, Sha.digest_length rfl]; exact sz224) (hS.get (i := 1) rfl)) ?_)
      refine WL.step rfl (Stp.res rfl rfl (Res.loadAll rfl rfl underlying222 rfl (by rw [size_bs, List.length_take, List.length_drop, hPl, Nat.min_eq_left (by omega)]; exact sz222) (hS.get (i := 0) rfl)) ?_)
      refine WL.step rfl (Stp.callG (args := [_, _]) rfl rfl rfl cal165 rfl rfl hS (qblock_ok _ _ _ _ hS.on (Sha.digest_length rfl _ _) (by rw [List.length_take, List.length_drop, hPl]; omega)) ?_)
      rintro _ w _ hS _ ⟨rfl, rfl⟩
      refine WL.step rfl (Stp.storeAllW32 1 rfl rfl rfl sz224 rfl hS rfl ⟨Sha.digest_length rfl _ _, by rw [Sha.block_length, Sha.digest_length rfl]⟩ ?_)
      intro w hS hpt
      refine WL.nil (Blk_n (Thn_n ?_))
      refine CW.region ?_
      refine WL.step rfl (Stp.res rfl rfl (Res.move rfl rfl) ?_)
      refine WL.step rfl (Stp.res rfl rfl (Res.add rfl rfl rfl (by omega)) ?_)
      refine WL.step rfl (Stp.res rfl rfl (Res.assign rfl rfl) ?_)
      refine WL.nil (Thn_n ?_)
      exact ⟨m + 1, ⟨rfl, rfl, rfl, intc (by omega), trivial⟩, ⟨by omega, hS.drop (i := 0) rfl hb6⟩, by omega⟩
  · obtain rfl : m = Sha.padN l.length / 64 := by omega
    obtain ⟨D, hD⟩ : ∃ D, D = Sha.digest Sha.first (Sha.pad l) (Sha.padN l.length / 64) := ⟨_, rfl⟩
    rw [← hD] at hS
    have hDl : D.length = 8 := by rw [hD]; exact Sha.digest_length rfl _ _
    refine CW.exit (Thn_x (Thn_x (Blk_x (Thn_n ?_))))
    refine CW.seq ?_
    refine CW.region ?_
    refine WL.step rfl (Stp.res rfl rfl (Res.build (vals := []) (cs := bs (List.replicate 32 0)) rfl rfl (fun _ => by kernel_rfl)) ?_)
    refine WL.step rfl (Stp.alloc (cs := bs (List.replicate 32 0)) rfl z143 rfl rfl rfl hS ?_)
    intro b8 w hb8 hS hkp hnw
    refine WL.step rfl (Stp.storeAllB 0 rfl rfl rfl sz143 rfl hS rfl ⟨List.length_replicate .., List.length_replicate ..⟩ ?_)
    intro w hS hpt
    refine WL.nil (Thn_n ?_)
    refine CW.seq ?_
    refine CW.seq ?_
    refine CW.region ?_
    refine WL.step rfl (Stp.res rfl rfl (Res.assign rfl rfl) ?_)
    refine WL.nil (Thn_n ?_)
    refine CW.block ?_
    refine CW.loop (σ := Nat) (fun i => [(2, .pointer (some ⟨b2, 0, none⟩)), (3, .pointer (some ⟨b3, 0, none⟩)), (8, .pointer (some ⟨b8, 0, none⟩)), (9, .int .i64 (i : Int))])
      (fun i w' => i ≤ 8 ∧ St w0 w' MP [(b8, .cells (bs (Sha.outQ D i 0)) 143 (0, 0)), (b3, .cells (ws32 D) 224 (0, 0)), (b2, .cells (bs (List.replicate 32 0)) 143 (0, 0))]) (fun i => 8 - i) 0 ⟨rfl, rfl, rfl, rfl, trivial⟩ ⟨by omega, by rw [Sha.outQ, show 4 * 0 = 0 from rfl, Aes.upTo_zero]; exact hS⟩ ?_
    rintro i w3 ⟨hi, hS⟩
    refine CW.seq ?_
    refine CW.seq ?_
    refine CW.region ?_
    refine WL.step rfl (Stp.res rfl rfl (Res.move rfl rfl) ?_)
    refine WL.step rfl (Stp.res rfl rfl (Res.lss rfl rfl rfl) ?_)
    refine WL.nil (Thn_n ?_)
    refine CW.ite rfl (fun h3 => ?_) (fun h3 => ?_)
    · have hlt3 : i < 8 := by omega
      refine CW.skip (Thn_n ?_)
      refine CW.seq ?_
      refine CW.block ?_
      refine CW.seq ?_
      refine CW.region ?_
      refine WL.step rfl (Stp.res rfl rfl (Res.move rfl rfl) ?_)
      refine WL.step rfl (Stp.res rfl rfl (Res.idxA0 (k := i) rfl rfl rfl underlying224 sz223 (by omega) (by omega)) ?_)
      refine WL.step rfl (Stp.res rfl rfl (Res.load1 (v := w32 (D.getD i 0)) rfl rfl underlying223 rfl (hS.ocell (i := 1) rfl (ws32_get (by omega)))) ?_)
      refine WL.step rfl (Stp.res rfl rfl (Res.assign rfl rfl) ?_)
      refine WL.nil (Thn_n ?_)
      refine CW.seq ?_
      refine CW.region ?_
      refine WL.step rfl (Stp.res rfl rfl (Res.assign rfl rfl) ?_)
      refine WL.nil (Thn_n ?_)
      refine CW.block ?_
      refine CW.loop (σ := Nat) (fun q => [(2, .pointer (some ⟨b2, 0, none⟩)), (3, .pointer (some ⟨b3, 0, none⟩)), (8, .pointer (some ⟨b8, 0, none⟩)), (9, .int .i64 (i : Int)), (10, .int .u32 (((D.getD i 0).toNat / 256 ^ q : Nat) : Int)), (11, .int .i64 (3 - (q : Int)))])
        (fun q w' => q ≤ 4 ∧ St w0 w' MP [(b8, .cells (bs (Sha.outQ D i q)) 143 (0, 0)), (b3, .cells (ws32 D) 224 (0, 0)), (b2, .cells (bs (List.replicate 32 0)) 143 (0, 0))]) (fun q => 4 - q) 0 ⟨rfl, rfl, rfl, rfl, (by rw [Nat.pow_zero, Nat.div_one]; rfl), rfl, trivial⟩ ⟨by omega, hS⟩ ?_
      rintro q w4 ⟨hq, hS⟩
      refine CW.seq ?_
      refine CW.seq ?_
      refine CW.region ?_
      refine WL.step rfl (Stp.res rfl rfl (Res.move rfl rfl) ?_)
      refine WL.step rfl (Stp.res rfl rfl (Res.geq rfl rfl rfl) ?_)
      refine WL.nil (Thn_n ?_)
      refine CW.ite rfl (fun h4 => ?_) (fun h4 => ?_)
      · have hlt : q < 4 := by omega
        refine CW.skip (Thn_n ?_)
        refine CW.seq ?_
        refine CW.block ?_
        refine CW.seq ?_
        refine CW.region ?_
        refine WL.step rfl (Stp.res rfl rfl (Res.move rfl rfl) ?_)
        refine WL.step rfl (Stp.res rfl rfl (Res.mul rfl rfl rfl (by omega)) ?_)
        refine WL.step rfl (Stp.res rfl rfl (Res.move rfl rfl) ?_)
        refine WL.step rfl (Stp.res rfl rfl (Res.add rfl rfl rfl (by omega)) ?_)
        refine WL.step rfl (Stp.res rfl rfl (Res.move rfl rfl) ?_)
        refine WL.step rfl (Stp.res rfl rfl (Res.remU (a := (D.getD i 0).toNat / 256 ^ q) (b := 256) rfl rfl rfl (by decide)) ?_)
        refine WL.step rfl (Stp.res rfl rfl (Res.convB (k := (D.getD i 0).toNat / 256 ^ q % 256) rfl rfl underlying223 underlying5) ?_)
        refine WL.step rfl (Stp.res rfl rfl (Res.idxA0 (k := 4 * i + 3 - q) rfl rfl rfl underlying143 sz5 (by omega) (by omega)) ?_)
        refine WL.step rfl (Stp.storeB 0 rfl rfl rfl sz5 rfl hS rfl (by rw [Sha.outQ_length]; omega) ?_)
        intro w hS hpt
        rw [← Sha.outQ_byte D i hlt] at hS
        refine WL.nil (Thn_n ?_)
        refine CW.region ?_
        refine WL.step rfl (Stp.res rfl rfl (Res.move rfl rfl) ?_)
        refine WL.step rfl (Stp.res rfl rfl (Res.quoU (a := (D.getD i 0).toNat / 256 ^ q) (b := 256) uk32 rfl rfl rfl ⟨by decide, Nat.lt_of_le_of_lt (Nat.div_le_self _ _) (UInt32.toNat_lt _)⟩) ?_)
        refine WL.step rfl (Stp.res rfl rfl (Res.assign rfl rfl) ?_)
        refine WL.nil (Blk_n (Thn_n ?_))
        refine CW.region ?_
        refine WL.step rfl (Stp.res rfl rfl (Res.move rfl rfl) ?_)
        refine WL.step rfl (Stp.res rfl rfl (Res.sub rfl rfl rfl (by omega)) ?_)
        refine WL.step rfl (Stp.res rfl rfl (Res.assign rfl rfl) ?_)
        refine WL.nil (Thn_n ?_)
        exact ⟨q + 1, ⟨rfl, rfl, rfl, rfl, intc (by rw [Nat.pow_succ, ← Nat.div_div_eq_div_mul]), intc (by omega), trivial⟩, ⟨by omega, hS⟩, by omega⟩
      · obtain rfl : q = 4 := by omega
        refine CW.exit (Thn_x (Thn_x (Blk_x (Blk_n (Thn_n ?_)))))
        refine CW.region ?_
        refine WL.step rfl (Stp.res rfl rfl (Res.move rfl rfl) ?_)
        refine WL.step rfl (Stp.res rfl rfl (Res.add rfl rfl rfl (by omega)) ?_)
        refine WL.step rfl (Stp.res rfl rfl (Res.assign rfl rfl) ?_)
        refine WL.nil (Thn_n ?_)
        rw [Sha.outQ_all] at hS
        exact ⟨i + 1, ⟨rfl, rfl, rfl, rfl, trivial⟩, ⟨by omega, hS⟩, by omega⟩
    · obtain rfl : i = 8 := by omega
      refine CW.exit (Thn_x (Thn_x (Blk_x (Thn_n ?_))))
      refine CW.seq ?_
      refine CW.region ?_
      refine WL.step rfl (Stp.res rfl rfl (Res.loadAll rfl rfl underlying143 rfl (by rw [size_bs, Sha.outQ_length]; exact sz143) (hS.get (i := 0) rfl)) ?_)
      refine WL.step rfl (Stp.storeAllB 2 rfl rfl rfl sz143 rfl hS rfl ⟨List.length_replicate .., Sha.outQ_length ..⟩ ?_)
      intro w hS hpt
      refine WL.nil (Thn_n ?_)
      refine CW.ret ?_
      exact fq_cell rfl rfl (hS.get (i := 2) rfl) underlying143 rfl (by rw [size_bs, Sha.outQ_length]; exact sz143) ⟨M, (((hS.drop (i := 0) rfl hb8).drop (i := 0) rfl hb3).drop (i := 0) rfl hb2).known hGP.1, PH.le.refl _, Fresh.refl _ _, rfl, by rw [Sha.sum, ← hD, Sha.outQ, Aes.upTo_all _ _ 32 (List.length_replicate ..)]; rfl⟩
end Go.Proofs.YtcmgimicdcchlaaGreatDoor
set_option linter.unusedVariables false
set_option maxRecDepth 20000
namespace Go.Proofs.YtcmgimicdcchlaaGreatDoor
open Go.Proofs.Tryz
open Go Go.E
end Go.Proofs.YtcmgimicdcchlaaGreatDoor
set_option linter.unusedVariables false
set_option maxRecDepth 20000
namespace Go.Proofs.YtcmgimicdcchlaaGreatDoor
open Go.Proofs.Tryz
open Go Go.E
theorem qfull_ok (v : Value) (key : List UInt8) (x : UInt8) (w0 : World) (M : PH) (hM : On M w0) (hv : Bs M v key) (hlen : key.length ≤ 1099511627776) : Ok Tryz.prog 145 #[v, byte x] w0 M (fun M' r => ∃ b, M b = none ∧ w0.heap.size ≤ b ∧ M' b = some (.cells (bs (Mac.padded key x)) 5 (0, 0)) ∧ r = .slice (some ⟨b, 0, none⟩) 64 64) := by
  have hS := hM.st
  have hv0 := hv
  obtain ⟨va, vc, rfl, v1, v2, v3, v4⟩ := hv
  have hhl := Mac.hkey_le key
  refine enterB (l := [.slice va key.length vc, byte x]) 37 func145 rfl ntmps145 rfl ?_
  refine CW.seq ?_
  refine CW.region ?_
  refine WL.step rfl (Stp.res rfl rfl (Res.assign rfl rfl) ?_)
  refine WL.nil (Thn_n ?_)
  refine CW.seq ?_
  refine CW.seq ?_
  refine CW.region ?_
  refine WL.step rfl (Stp.res rfl rfl (Res.move rfl rfl) ?_)
  refine WL.step rfl (Stp.res rfl rfl (Res.len rfl rfl rfl rfl underlying30) ?_)
  refine WL.step rfl (Stp.res rfl rfl (Res.gtr rfl rfl rfl) ?_)
  refine WL.nil (Thn_n ?_)
  refine CW.ite rfl (fun h => ?_) (fun h => ?_)
  · have hlong : key.length > 64 := by omega
    have hkk : Mac.hkey key = Sha.sum key := by rw [Mac.hkey, if_pos hlong]
    have hkl : (Mac.hkey key).length = 32 := by rw [hkk, Sha.sum_length]
    refine CW.seq ?_
    refine CW.region ?_
    refine WL.step rfl (Stp.res rfl rfl (Res.move rfl rfl) ?_)
    refine WL.step rfl (Stp.callG (args := [_]) rfl rfl rfl cal144 rfl rfl hS (qsum_ok _ key _ _ hS.on hv0 hlen) ?_)
    rintro _ w _ hS _ ⟨rfl, rfl⟩
    refine WL.step rfl (Stp.alloc (cs := bs (List.replicate 32 0)) rfl z143 rfl rfl rfl hS ?_)
    intro b5 w hb5 hS hkp hnw
    refine WL.step rfl (Stp.storeAllB 0 rfl rfl rfl sz143 rfl hS rfl ⟨List.length_replicate .., Sha.sum_length _⟩ ?_)
    intro w hS hpt
    refine WL.nil (Thn_n ?_)
    have hF := hS.freezeG (i := 0) rfl hb5
    obtain ⟨MX, hGX, hX, hS⟩ : ∃ MX, Grow w0.heap.size M MX ∧ Bs MX (.slice (some ⟨b5, 0, none⟩) 32 32) (Mac.hkey key) ∧ St w0 w MX [] := ⟨_, hF.2, by rw [hkk]; exact Bs.of' (PH.add_self _ _ _) (Sha.sum_length _) (by omega), hF.1⟩
    refine CW.region ?_
    refine WL.step rfl (Stp.res rfl rfl (Res.sliceA rfl rfl underlying143 (by decide) sz5) ?_)
    refine WL.step rfl (Stp.res rfl rfl (Res.assign rfl rfl) ?_)
    refine WL.nil (Thn_n ?_)
    refine CW.seq ?_
    refine CW.region ?_
    refine WL.step rfl (Stp.makeB (k := 64) (c := 64) rfl rfl rfl et30 ⟨Nat.le_refl 64, by decide⟩ rfl rfl hS ?_)
    intro b14 w hb14 hS hkp hnw
    refine WL.step rfl (Stp.res rfl rfl (Res.assign rfl rfl) ?_)
    refine WL.nil (Thn_n ?_)
    refine CW.seq ?_
    refine CW.seq ?_
    refine CW.region ?_
    refine WL.step rfl (Stp.res rfl rfl (Res.assign rfl rfl) ?_)
    refine WL.nil (Thn_n ?_)
    refine CW.block ?_
    refine CW.loop (σ := Nat) (fun i => [(0, .slice (some ⟨b5, 0, none⟩) 32 32), (1, byte x), (6, .slice (some ⟨b14, 0, none⟩) 64 64), (7, .int .i64 (i : Int))])
      (fun i w' => i ≤ 64 ∧ St w0 w' MX [(b14, .cells (bs (Aes.upTo i (fun j => (Mac.fill (Mac.hkey key)).getD j 0 ^^^ x) (List.replicate 64 0))) 5 (0, 0))]) (fun i => 64 - i) 0 ⟨rfl, rfl, rfl, rfl, trivial⟩ ⟨by omega, by rw [Aes.upTo_zero]; exact hS⟩ ?_
    rintro i w1 ⟨hi, hS⟩
    refine CW.seq ?_
    refine CW.seq ?_
    refine CW.region ?_
    refine WL.step rfl (Stp.res rfl rfl (Res.move rfl rfl) ?_)
    refine WL.step rfl (Stp.res rfl rfl (Res.lss rfl rfl rfl) ?_)
    refine WL.nil (Thn_n ?_)
    refine CW.ite rfl (fun h2 => ?_) (fun h2 => ?_)
    · have hlt : i < 64 := by omega
      refine CW.skip (Thn_n ?_)
      refine CW.seq ?_
      refine CW.block ?_
      refine CW.seq ?_
      refine CW.region ?_
      refine WL.step rfl (Stp.res rfl rfl (Res.move rfl rfl) ?_)
      refine WL.step rfl (Stp.res rfl rfl (Res.move rfl rfl) ?_)
      refine WL.step rfl (Stp.res rfl rfl (Res.move rfl rfl) ?_)
      refine WL.step rfl (Stp.res rfl rfl (Res.idxS0 (k := i) rfl rfl rfl underlying30 sz5 (Int.toNat_natCast _) (by omega)) ?_)
      refine WL.step rfl (Stp.storeB 0 rfl rfl rfl sz5 rfl hS rfl (by simp; omega) ?_)
      intro w hS hpt
      refine WL.nil (Thn_n ?_)
      refine CW.seq ?_
      refine CW.region ?_
      refine WL.step rfl (Stp.res rfl rfl (Res.move rfl rfl) ?_)
      refine WL.step rfl (Stp.res rfl rfl (Res.move rfl rfl) ?_)
      refine WL.step rfl (Stp.res rfl rfl (Res.len rfl rfl rfl rfl underlying30) ?_)
      refine WL.step rfl (Stp.res rfl rfl (Res.lss rfl rfl rfl) ?_)
      refine WL.nil (Thn_n ?_)
      refine CW.ite rfl (fun h4 => ?_) (fun h4 => ?_)
      · have h3 : i < (Mac.hkey key).length := by omega
        obtain ⟨kb, ko, kcp, hke, kk1, kk2, kcell⟩ := hX.at (by omega)
        simp only [Value.slice.injEq] at hke
        obtain ⟨hke1, hke2, rfl⟩ := hke
        first | (subst hke1; skip) | (simp only [Option.some.injEq, Addr.mk.injEq] at hke1; obtain ⟨rfl, rfl, _⟩ := hke1)
        refine CW.region ?_
        refine WL.step rfl (Stp.res rfl rfl (Res.move rfl rfl) ?_)
        refine WL.step rfl (Stp.res rfl rfl (Res.move rfl rfl) ?_)
        refine WL.step rfl (Stp.res rfl rfl (Res.move rfl rfl) ?_)
        refine WL.step rfl (Stp.res rfl rfl (Res.move rfl rfl) ?_)
        refine WL.step rfl (Stp.res rfl rfl (Res.idxS1 (k := i) rfl rfl rfl underlying30 sz5 (Int.toNat_natCast _) (by omega)) ?_)
        refine WL.step rfl (Stp.res rfl rfl (Res.load1 rfl rfl underlying5 rfl (hS.cell (kcell _ h3))) ?_)
        refine WL.step rfl (Stp.res rfl rfl (Res.move rfl rfl) ?_)
        refine WL.step rfl (Stp.res rfl rfl (Res.xorB _ rfl rfl rfl) ?_)
        refine WL.step rfl (Stp.res rfl rfl (Res.idxS0 (k := i) rfl rfl rfl underlying30 sz5 (Int.toNat_natCast _) (by omega)) ?_)
        refine WL.step rfl (Stp.storeB 0 rfl rfl rfl sz5 rfl hS rfl (by simp; omega) ?_)
        intro w hS hpt
        refine WL.nil (Blk_n (Thn_n ?_))
        refine CW.region ?_
        refine WL.step rfl (Stp.res rfl rfl (Res.move rfl rfl) ?_)
        refine WL.step rfl (Stp.res rfl rfl (Res.add rfl rfl rfl (by omega)) ?_)
        refine WL.step rfl (Stp.res rfl rfl (Res.assign rfl rfl) ?_)
        refine WL.nil (Thn_n ?_)
        refine ⟨i + 1, ⟨rfl, rfl, rfl, rfl, trivial⟩, ⟨by omega, ?_⟩, by omega⟩
        rw [← Aes.upTo_set]
        show St w0 w MX [(b14, .cells (bs ((Aes.upTo i (fun j => (Mac.fill (Mac.hkey key)).getD j 0 ^^^ x) (List.replicate 64 0)).set i ((Mac.fill (Mac.hkey key)).getD i 0 ^^^ x))) 5 (0, 0))]
        rw [Mac.fill_at]
        first
        | (rw [if_pos h3]; have hS' : St w0 w MX [(b14, .cells (bs (((Aes.upTo i (fun j => (Mac.fill (Mac.hkey key)).getD j 0 ^^^ x) (List.replicate 64 0)).set i x).set i ((Mac.hkey key).getD i 0 ^^^ x))) 5 (0, 0))] := hS; rw [List.set_set] at hS'; exact hS')
        | (rw [if_neg h3]; exact hS)
      · have h3 : ¬ i < (Mac.hkey key).length := by omega
        refine CW.skip (Blk_n (Thn_n ?_))
        refine CW.region ?_
        refine WL.step rfl (Stp.res rfl rfl (Res.move rfl rfl) ?_)
        refine WL.step rfl (Stp.res rfl rfl (Res.add rfl rfl rfl (by omega)) ?_)
        refine WL.step rfl (Stp.res rfl rfl (Res.assign rfl rfl) ?_)
        refine WL.nil (Thn_n ?_)
        refine ⟨i + 1, ⟨rfl, rfl, rfl, rfl, trivial⟩, ⟨by omega, ?_⟩, by omega⟩
        rw [← Aes.upTo_set]
        show St w0 w MX [(b14, .cells (bs ((Aes.upTo i (fun j => (Mac.fill (Mac.hkey key)).getD j 0 ^^^ x) (List.replicate 64 0)).set i ((Mac.fill (Mac.hkey key)).getD i 0 ^^^ x))) 5 (0, 0))]
        rw [Mac.fill_at]
        first
        | (rw [if_pos h3]; have hS' : St w0 w MX [(b14, .cells (bs (((Aes.upTo i (fun j => (Mac.fill (Mac.hkey key)).getD j 0 ^^^ x) (List.replicate 64 0)).set i x).set i ((Mac.hkey key).getD i 0 ^^^ x))) 5 (0, 0))] := hS; rw [List.set_set] at hS'; exact hS')
        | (rw [if_neg h3]; exact hS)
    · obtain rfl : i = 64 := by omega
      refine CW.exit (Thn_x (Thn_x (Blk_x (Thn_n ?_))))
      refine CW.seq ?_
      refine CW.region ?_
      refine WL.step rfl (Stp.res rfl rfl (Res.move rfl rfl) ?_)
      refine WL.step rfl (Stp.res rfl rfl (Res.assign rfl rfl) ?_)
      refine WL.nil (Thn_n ?_)
      refine CW.ret ?_
      rw [Aes.upTo_all _ _ 64 (List.length_replicate ..)] at hS
      have hF := hS.freezeG (i := 0) rfl hb14
      exact fq_tmp rfl rfl ⟨_, hF.1, (hGX.trans hF.2).1, (hGX.trans hF.2).2, b14, (Fresh.refl M 0).none w0 hM hb14, hb14, PH.add_self _ _ _, rfl⟩
  · have hshort : ¬ key.length > 64 := by omega
    have hkk : Mac.hkey key = key := by rw [Mac.hkey, if_neg hshort]
    have hkl : (Mac.hkey key).length = key.length := by rw [hkk]
    obtain ⟨MX, hGX, hX, hS⟩ : ∃ MX, Grow w0.heap.size M MX ∧ Bs MX (.slice va key.length vc) (Mac.hkey key) ∧ St w0 w0 MX [] := ⟨M, Grow.refl _ _, by rw [hkk]; exact hv0, hS⟩
    refine CW.skip (Thn_n ?_)
    refine CW.seq ?_
    refine CW.region ?_
    refine WL.step rfl (Stp.makeB (k := 64) (c := 64) rfl rfl rfl et30 ⟨Nat.le_refl 64, by decide⟩ rfl rfl hS ?_)
    intro b14 w hb14 hS hkp hnw
    refine WL.step rfl (Stp.res rfl rfl (Res.assign rfl rfl) ?_)
    refine WL.nil (Thn_n ?_)
    refine CW.seq ?_
    refine CW.seq ?_
    refine CW.region ?_
    refine WL.step rfl (Stp.res rfl rfl (Res.assign rfl rfl) ?_)
    refine WL.nil (Thn_n ?_)
    refine CW.block ?_
    refine CW.loop (σ := Nat) (fun i => [(0, .slice va key.length vc), (1, byte x), (6, .slice (some ⟨b14, 0, none⟩) 64 64), (7, .int .i64 (i : Int))])
      (fun i w' => i ≤ 64 ∧ St w0 w' MX [(b14, .cells (bs (Aes.upTo i (fun j => (Mac.fill (Mac.hkey key)).getD j 0 ^^^ x) (List.replicate 64 0))) 5 (0, 0))]) (fun i => 64 - i) 0 ⟨rfl, rfl, rfl, rfl, trivial⟩ ⟨by omega, by rw [Aes.upTo_zero]; exact hS⟩ ?_
    rintro i w1 ⟨hi, hS⟩
    refine CW.seq ?_
    refine CW.seq ?_
    refine CW.region ?_
    refine WL.step rfl (Stp.res rfl rfl (Res.move rfl rfl) ?_)
    refine WL.step rfl (Stp.res rfl rfl (Res.lss rfl rfl rfl) ?_)
    refine WL.nil (Thn_n ?_)
    refine CW.ite rfl (fun h2 => ?_) (fun h2 => ?_)
    · have hlt : i < 64 := by omega
      refine CW.skip (Thn_n ?_)
      refine CW.seq ?_
      refine CW.block ?_
      refine CW.seq ?_
      refine CW.region ?_
      refine WL.step rfl (Stp.res rfl rfl (Res.move rfl rfl) ?_)
      refine WL.step rfl (Stp.res rfl rfl (Res.move rfl rfl) ?_)
      refine WL.step rfl (Stp.res rfl rfl (Res.move rfl rfl) ?_)
      refine WL.step rfl (Stp.res rfl rfl (Res.idxS0 (k := i) rfl rfl rfl underlying30 sz5 (Int.toNat_natCast _) (by omega)) ?_)
      refine WL.step rfl (Stp.storeB 0 rfl rfl rfl sz5 rfl hS rfl (by simp; omega) ?_)
      intro w hS hpt
      refine WL.nil (Thn_n ?_)
      refine CW.seq ?_
      refine CW.region ?_
      refine WL.step rfl (Stp.res rfl rfl (Res.move rfl rfl) ?_)
      refine WL.step rfl (Stp.res rfl rfl (Res.move rfl rfl) ?_)
      refine WL.step rfl (Stp.res rfl rfl (Res.len rfl rfl rfl rfl underlying30) ?_)
      refine WL.step rfl (Stp.res rfl rfl (Res.lss rfl rfl rfl) ?_)
      refine WL.nil (Thn_n ?_)
      refine CW.ite rfl (fun h4 => ?_) (fun h4 => ?_)
      · have h3 : i < (Mac.hkey key).length := by omega
        obtain ⟨kb, ko, kcp, hke, kk1, kk2, kcell⟩ := hX.at (by omega)
        simp only [Value.slice.injEq] at hke
        obtain ⟨hke1, hke2, rfl⟩ := hke
        first | (subst hke1; skip) | (simp only [Option.some.injEq, Addr.mk.injEq] at hke1; obtain ⟨rfl, rfl, _⟩ := hke1)
        refine CW.region ?_
        refine WL.step rfl (Stp.res rfl rfl (Res.move rfl rfl) ?_)
        refine WL.step rfl (Stp.res rfl rfl (Res.move rfl rfl) ?_)
        refine WL.step rfl (Stp.res rfl rfl (Res.move rfl rfl) ?_)
        refine WL.step rfl (Stp.res rfl rfl (Res.move rfl rfl) ?_)
        refine WL.step rfl (Stp.res rfl rfl (Res.idxS1 (k := i) rfl rfl rfl underlying30 sz5 (Int.toNat_natCast _) (by omega)) ?_)
        refine WL.step rfl (Stp.res rfl rfl (Res.load1 rfl rfl underlying5 rfl (hS.cell (kcell _ h3))) ?_)
        refine WL.step rfl (Stp.res rfl rfl (Res.move rfl rfl) ?_)
        refine WL.step rfl (Stp.res rfl rfl (Res.xorB _ rfl rfl rfl) ?_)
        refine WL.step rfl (Stp.res rfl rfl (Res.idxS0 (k := i) rfl rfl rfl underlying30 sz5 (Int.toNat_natCast _) (by omega)) ?_)
        refine WL.step rfl (Stp.storeB 0 rfl rfl rfl sz5 rfl hS rfl (by simp; omega) ?_)
        intro w hS hpt
        refine WL.nil (Blk_n (Thn_n ?_))
        refine CW.region ?_
        refine WL.step rfl (Stp.res rfl rfl (Res.move rfl rfl) ?_)
        refine WL.step rfl (Stp.res rfl rfl (Res.add rfl rfl rfl (by omega)) ?_)
        refine WL.step rfl (Stp.res rfl rfl (Res.assign rfl rfl) ?_)
        refine WL.nil (Thn_n ?_)
        refine ⟨i + 1, ⟨rfl, rfl, rfl, rfl, trivial⟩, ⟨by omega, ?_⟩, by omega⟩
        rw [← Aes.upTo_set]
        show St w0 w MX [(b14, .cells (bs ((Aes.upTo i (fun j => (Mac.fill (Mac.hkey key)).getD j 0 ^^^ x) (List.replicate 64 0)).set i ((Mac.fill (Mac.hkey key)).getD i 0 ^^^ x))) 5 (0, 0))]
        rw [Mac.fill_at]
        first
        | (rw [if_pos h3]; have hS' : St w0 w MX [(b14, .cells (bs (((Aes.upTo i (fun j => (Mac.fill (Mac.hkey key)).getD j 0 ^^^ x) (List.replicate 64 0)).set i x).set i ((Mac.hkey key).getD i 0 ^^^ x))) 5 (0, 0))] := hS; rw [List.set_set] at hS'; exact hS')
        | (rw [if_neg h3]; exact hS)
      · have h3 : ¬ i < (Mac.hkey key).length := by omega
        refine CW.skip (Blk_n (Thn_n ?_))
        refine CW.region ?_
        refine WL.step rfl (Stp.res rfl rfl (Res.move rfl rfl) ?_)
        refine WL.step rfl (Stp.res rfl rfl (Res.add rfl rfl rfl (by omega)) ?_)
        refine WL.step rfl (Stp.res rfl rfl (Res.assign rfl rfl) ?_)
        refine WL.nil (Thn_n ?_)
        refine ⟨i + 1, ⟨rfl, rfl, rfl, rfl, trivial⟩, ⟨by omega, ?_⟩, by omega⟩
        rw [← Aes.upTo_set]
        show St w0 w MX [(b14, .cells (bs ((Aes.upTo i (fun j => (Mac.fill (Mac.hkey key)).getD j 0 ^^^ x) (List.replicate 64 0)).set i ((Mac.fill (Mac.hkey key)).getD i 0 ^^^ x))) 5 (0, 0))]
        rw [Mac.fill_at]
        first
        | (rw [if_pos h3]; have hS' : St w0 w MX [(b14, .cells (bs (((Aes.upTo i (fun j => (Mac.fill (Mac.hkey key)).getD j 0 ^^^ x) (List.replicate 64 0)).set i x).set i ((Mac.hkey key).getD i 0 ^^^ x))) 5 (0, 0))] := hS; rw [List.set_set] at hS'; exact hS')
        | (rw [if_neg h3]; exact hS)
    · obtain rfl : i = 64 := by omega
      refine CW.exit (Thn_x (Thn_x (Blk_x (Thn_n ?_))))
      refine CW.seq ?_
      refine CW.region ?_
      refine WL.step rfl (Stp.res rfl rfl (Res.move rfl rfl) ?_)
      refine WL.step rfl (Stp.res rfl rfl (Res.assign rfl rfl) ?_)
      refine WL.nil (Thn_n ?_)
      refine CW.ret ?_
      rw [Aes.upTo_all _ _ 64 (List.length_replicate ..)] at hS
      have hF := hS.freezeG (i := 0) rfl hb14
      exact fq_tmp rfl rfl ⟨_, hF.1, (hGX.trans hF.2).1, (hGX.trans hF.2).2, b14, (Fresh.refl M 0).none w0 hM hb14, hb14, PH.add_self _ _ _, rfl⟩
end Go.Proofs.YtcmgimicdcchlaaGreatDoor
set_option linter.unusedVariables false
set_option maxRecDepth 20000
namespace Go.Proofs.YtcmgimicdcchlaaGreatDoor
open Go.Proofs.Tryz
open Go Go.E
theorem qmac_ok (kv v : Value) (key l : List UInt8) (w0 : World) (M : PH) (hM : On M w0) (hkey : Bs M kv key) (hv : Bs M v l) (hlen : key.length ≤ 1099511627776) (hlen2 : l.length ≤ 549755813888) : Ok Tryz.prog 109 #[kv, v] w0 M (fun M' r => M = M' ∧ r = .agg (bs (Mac.sum key l))) := by
  have hS := hM.st
  refine enterB (l := [kv, v]) 16 func109 rfl ntmps109 rfl ?_
  refine CW.seq ?_
  refine CW.region ?_
  refine WL.step rfl (Stp.alloc (cs := bs (List.replicate 32 0)) rfl z143 rfl rfl rfl hS ?_)
  intro b4 w hb4 hS hkp hnw
  refine WL.nil (Thn_n ?_)
  refine CW.seq ?_
  have hsz1 := hS.size
  refine CW.region ?_
  refine WL.step rfl (Stp.res rfl rfl (Res.move rfl rfl) ?_)
  refine WL.step rfl (Stp.callG (args := [_, byte 54]) rfl rfl rfl cal145 rfl rfl hS (qfull_ok _ key 54 _ _ hS.on (hkey) hlen) ?_)
  rintro _ w MF54 hS hGF54 ⟨fb54, hfn54, hfb54, hfM54, rfl⟩
  have hS := hS.take hfM54 hGF54.1 hfn54
  have hfb54 := Nat.le_trans hsz1 hfb54
  refine WL.step rfl (Stp.res rfl rfl (Res.move rfl rfl) ?_)
  refine WL.step rfl (Stp.appendB (l := Mac.padded key 54) (r := l) rfl rfl rfl rfl et30 (Src.ofBs underlying30 hS hv) hS (OwnB.of hfb54 (Nat.le_refl 64) (by omega) _ (Mac.padded_length ..) (List.take_of_length_le (by rw [Mac.padded_length]; omega))) (by rw [Mac.padded_length]; omega) rfl rfl ?_)
  intro av w g1 hS hown
  obtain ⟨M2, hS, hle2, hfr2, hv2⟩ := hown.give hS
  have hG2 : Grow w0.heap.size M M2 := ⟨hle2, hfr2⟩
  refine WL.step rfl (Stp.callG (args := [_]) rfl rfl rfl cal144 rfl rfl hS (qsum_ok _ (Mac.padded key 54 ++ l) _ _ hS.on hv2 (by rw [List.length_append, Mac.padded_length]; omega)) ?_)
  rintro _ w _ hS _ ⟨rfl, rfl⟩
  refine WL.step rfl (Stp.alloc (cs := bs (List.replicate 32 0)) rfl z143 rfl rfl rfl hS ?_)
  intro b5 w hb5 hS hkp hnw
  refine WL.step rfl (Stp.storeAllB 0 rfl rfl rfl sz143 rfl hS rfl ⟨List.length_replicate .., Sha.sum_length _⟩ ?_)
  intro w hS hpt
  refine WL.nil (Thn_n ?_)
  refine CW.seq ?_
  have hF5 := hS.freezeG (i := 0) rfl hb5
  obtain ⟨M3, hG3, h5, hS⟩ : ∃ M3, Grow w0.heap.size M2 M3 ∧ Bs M3 (.slice (some ⟨b5, 0, none⟩) 32 32) (Sha.sum (Mac.padded key 54 ++ l)) ∧ St w0 w M3 [(b4, .cells (bs (List.replicate 32 0)) 143 (0, 0))] := ⟨_, hF5.2, Bs.of' (PH.add_self _ _ _) (Sha.sum_length _) (by omega), hF5.1⟩
  have hsz2 := hS.size
  have hS := hS.drew
  have hK0 : True := trivial
  refine CW.held (fun _ => True) mixed ?_
  refine AL.take 0 rfl (by kernel_rfl) (by kernel_rfl) (by kernel_rfl) rfl rfl rfl hK0 (fun w hK => Res.move rfl rfl) ?_
  refine AL.take 2 rfl (by kernel_rfl) (by kernel_rfl) (by kernel_rfl) rfl rfl rfl hK0 (fun w hK => Res.sliceA rfl rfl underlying143 (by decide) sz5) ?_
  refine AL.one 1 rfl (by kernel_rfl) rfl (Stp.callG (args := [_, byte 92]) rfl rfl rfl cal145 rfl rfl hS (qfull_ok _ key 92 _ _ hS.on (hkey.mono (hG2.trans hG3).1) hlen) ?_)
  rintro _ w MF92 hS hGF92 ⟨fb92, hfn92, hfb92, hfM92, rfl⟩
  have hS := hS.take hfM92 hGF92.1 hfn92
  have hfb92 := Nat.le_trans hsz2 hfb92
  have hK0 : True := trivial
  refine ⟨hK0, ?_⟩
  refine AL.one 3 rfl (by kernel_rfl) rfl (Stp.appendB (l := Mac.padded key 92) (r := Sha.sum (Mac.padded key 54 ++ l)) rfl rfl rfl rfl et30 (Src.ofBs underlying30 hS h5) hS (OwnB.of hfb92 (Nat.le_refl 64) (by omega) _ (Mac.padded_length ..) (List.take_of_length_le (by rw [Mac.padded_length]; omega))) (by rw [Mac.padded_length, Sha.sum_length]; omega) rfl rfl ?_)
  intro av w g1 hS hown
  obtain ⟨M5, hS, hle5, hfr5, hv5⟩ := hown.give hS
  have hG5 : Grow w0.heap.size M3 M5 := ⟨hle5, hfr5⟩
  have hK0 : True := trivial
  refine ⟨hK0, ?_⟩
  refine AL.one 4 rfl (by kernel_rfl) rfl (Stp.callG (args := [_]) rfl rfl rfl cal144 rfl rfl hS (qsum_ok _ (Mac.padded key 92 ++ Sha.sum (Mac.padded key 54 ++ l)) _ _ hS.on hv5 (by rw [List.length_append, Mac.padded_length, Sha.sum_length]; omega)) ?_)
  rintro _ w _ hS _ ⟨rfl, rfl⟩
  have hK0 : True := trivial
  refine ⟨hK0, ?_⟩
  refine AL.one 5 rfl (by kernel_rfl) rfl (Stp.storeAllB 0 rfl rfl rfl sz143 rfl hS rfl ⟨List.length_replicate .., Sha.sum_length _⟩ ?_)
  intro w hS hpt
  have hK0 : True := trivial
  refine ⟨hK0, ?_⟩
  refine AL.done (by kernel_rfl) (Thn_n ?_)
  refine CW.ret ?_
  exact fq_cell rfl rfl (hS.get (i := 0) rfl) underlying143 rfl (by rw [size_bs, Sha.sum_length]; exact sz143) ⟨M, (hS.drop (i := 0) rfl hb4).known ((hG2.trans hG3).trans hG5).1, PH.le.refl _, Fresh.refl _ _, rfl, rfl⟩
end Go.Proofs.YtcmgimicdcchlaaGreatDoor
set_option linter.unusedVariables false
set_option maxRecDepth 20000
namespace Go.Proofs.YtcmgimicdcchlaaGreatDoor
open Go.Proofs.Tryz
open Go Go.E
theorem qexpand_ok (kv : Value) (key text : List UInt8) (n : Nat) (w0 : World) (M : PH) (hM : On M w0) (hkey : Bs M kv key) (hlen : key.length ≤ 1099511627776) (htl : text.length ≤ 65536) (hn : 0 < n ∧ n ≤ 8160) : Ok Tryz.prog 110 #[kv, Go.E.str text, .int .i64 (n : Int)] w0 M (fun M' r => ∃ s, r = .tuple #[s, .int .i64 0] ∧ Bs M' s (Mac.expand key text n)) := by
  have hS := hM.st
  refine enterB (l := [kv, Go.E.str text, .int .i64 (n : Int)]) 45 func110 rfl ntmps110 rfl ?_
  refine CW.seq ?_
  refine CW.region ?_
  refine WL.step rfl (Stp.res rfl rfl (Res.assign rfl rfl) ?_)
  refine WL.step rfl (Stp.res rfl rfl (Res.assign rfl rfl) ?_)
  refine WL.nil (Thn_n ?_)
  refine CW.seq ?_
  refine CW.seq ?_
  refine CW.region ?_
  refine WL.step rfl (Stp.res rfl rfl (Res.move rfl rfl) ?_)
  refine WL.step rfl (Stp.res rfl rfl (Res.lss rfl rfl rfl) ?_)
  refine WL.nil (Thn_n ?_)
  refine CW.iteF rfl (by omega) ?_
  refine CW.skip (Thn_n ?_)
  refine CW.seq ?_
  refine CW.seq ?_
  refine CW.region ?_
  refine WL.step rfl (Stp.res rfl rfl (Res.move rfl rfl) ?_)
  refine WL.step rfl (Stp.res rfl rfl (Res.gtr rfl rfl rfl) ?_)
  refine WL.nil (Thn_n ?_)
  refine CW.iteF rfl (by omega) ?_
  refine CW.skip (Thn_n ?_)
  refine CW.seq ?_
  refine CW.region ?_
  refine WL.step rfl (Stp.lit (vals := []) (cs := bs []) (e := 5) rfl rfl (fun _ => by kernel_rfl) rfl rfl hS ?_)
  intro b16 w hb16 hS hkp hnw
  refine WL.step rfl (Stp.lit (vals := []) (cs := bs []) (e := 5) rfl rfl (fun _ => by kernel_rfl) rfl rfl hS ?_)
  intro b17 w hb17 hS hkp hnw
  refine WL.step rfl (Stp.res rfl rfl (Res.assign rfl rfl) ?_)
  refine WL.step rfl (Stp.res rfl rfl (Res.assign rfl rfl) ?_)
  refine WL.nil (Thn_n ?_)
  refine CW.seq ?_
  refine CW.seq ?_
  have hF := hS.freezeG (i := 0) rfl hb17
  obtain ⟨M1, hG1, hl0, hS⟩ : ∃ M1, Grow w0.heap.size M M1 ∧ Bs M1 (.slice (some ⟨b17, 0, none⟩) 0 0) [] ∧ St w0 w M1 ([(b16, .cells (bs []) 5 (0, 0))] ++ []) := ⟨_, hF.2, Bs.of' (PH.add_self _ _ _) rfl (by decide), hF.1⟩
  refine CW.region ?_
  refine WL.step rfl (Stp.res rfl rfl (Res.assign rfl rfl) ?_)
  refine WL.nil (Thn_n ?_)
  refine CW.block ?_
  refine CW.loop (σ := Nat × PH × Value × Value × Owned) (fun s => [(0, kv), (1, Go.E.str text), (2, .int .i64 (n : Int)), (8, s.2.2.2.1), (9, s.2.2.1), (10, .int .i64 ((s.1 + 1 : Nat) : Int))])
    (fun s w' => 32 * s.1 < n + 32 ∧ Grow w0.heap.size M1 s.2.1 ∧ St w0 w' s.2.1 (s.2.2.2.2 ++ []) ∧ Bs s.2.1 s.2.2.1 ((Mac.exp key text s.1).drop (32 * s.1 - 32)) ∧ OwnB w0.heap.size s.2.2.2.2 s.2.2.2.1 (Mac.exp key text s.1) 5) (fun s => n + 32 - 32 * s.1) (0, M1, _, _, _) ⟨rfl, rfl, rfl, rfl, rfl, rfl, trivial⟩ ⟨by dsimp only; omega, Grow.refl _ _, hS, hl0, OwnB.of hb16 (Nat.le_refl 0) (by omega) [] rfl rfl⟩ ?_
  rintro ⟨i, MJ, lv, ov, g⟩ w1 ⟨hi, hGJ, hS, hlast, hown⟩
  dsimp only at hi hGJ hS hlast hown ⊢
  have hel := Mac.exp_length key text i
  obtain ⟨oa, oc, rfl, o1, o2⟩ := hown.slice
  refine CW.seq ?_
  refine CW.seq ?_
  refine CW.region ?_
  refine WL.step rfl (Stp.res rfl rfl (Res.move rfl rfl) ?_)
  refine WL.step rfl (Stp.res rfl rfl (Res.len rfl rfl rfl rfl underlying30) ?_)
  refine WL.step rfl (Stp.res rfl rfl (Res.move rfl rfl) ?_)
  refine WL.step rfl (Stp.res rfl rfl (Res.lss rfl rfl rfl) ?_)
  refine WL.nil (Thn_n ?_)
  refine CW.ite rfl (fun h => ?_) (fun h => ?_)
  · have hlt : 32 * i < n := by omega
    refine CW.skip (Thn_n ?_)
    refine CW.seq ?_
    refine CW.block ?_
    refine CW.seq ?_
    obtain ⟨gg, hgg⟩ : ∃ gg, gg = g ++ [] := ⟨_, rfl⟩
    rw [← hgg] at hS
    refine CW.region ?_
    refine WL.step rfl (Stp.res rfl rfl (Res.move rfl rfl) ?_)
    refine WL.step rfl (Stp.lit (vals := []) (cs := bs []) (e := 5) rfl rfl (fun _ => by kernel_rfl) rfl rfl hS ?_)
    intro b25 w hb25 hS hkp hnw
    refine WL.step rfl (Stp.res rfl rfl (Res.move rfl rfl) ?_)
    refine WL.step rfl (Stp.appendB (l := []) (r := (Mac.exp key text i).drop (32 * i - 32)) rfl rfl rfl rfl et30 (Src.ofBs underlying30 hS hlast) hS (OwnB.of hb25 (Nat.le_refl 0) (by omega) [] rfl rfl) (by simp; omega) rfl rfl ?_)
    intro a1 w g1 hS hown1
    refine WL.step rfl (Stp.res rfl rfl (Res.move rfl rfl) ?_)
    refine WL.step rfl (Stp.s2b (l := text) rfl rfl underlying9 underlying30 underlying5 (by omega) hS rfl rfl ?_)
    intro w tv M2 hS hG2 htx
    refine WL.step rfl (Stp.appendB (l := [] ++ (Mac.exp key text i).drop (32 * i - 32)) (r := text) rfl rfl rfl rfl et30 (Src.ofBs underlying30 hS htx) hS hown1 (by simp; omega) rfl rfl ?_)
    intro a2 w g2 hS hown2
    refine WL.step rfl (Stp.res rfl rfl (Res.move rfl rfl) ?_)
    refine WL.step rfl (Stp.res rfl rfl (Res.convB (k := i + 1) rfl rfl underlying3 underlying5) ?_)
    refine WL.step rfl (Stp.lit (vals := [(0, byte (UInt8.ofNat (i + 1)))]) (cs := bs [(UInt8.ofNat (i + 1))]) (e := 5) rfl rfl (fun _ => by kernel_rfl) rfl rfl hS ?_)
    intro b33 w hb33 hS hkp hnw
    have hF := hS.freezeG (i := 0) rfl hb33
    obtain ⟨M3, hG3, hone, hS⟩ : ∃ M3, Grow w0.heap.size M2 M3 ∧ Bs M3 (.slice (some ⟨b33, 0, none⟩) 1 1) [UInt8.ofNat (i + 1)] ∧ St w0 w M3 (g2 ++ gg) := ⟨_, hF.2, Bs.of' (PH.add_self _ _ _) rfl (by decide), hF.1⟩
    refine WL.step rfl (Stp.appendB (l := [] ++ (Mac.exp key text i).drop (32 * i - 32) ++ text) (r := [UInt8.ofNat (i + 1)]) rfl rfl rfl rfl et30 (Src.ofBs underlying30 hS hone) hS hown2 (by simp; omega) rfl rfl ?_)
    intro a3 w g3 hS hown3
    obtain ⟨M4, hS, hle4, hfr4, hmsg⟩ := hown3.give hS
    have hG4 : Grow w0.heap.size M3 M4 := ⟨hle4, hfr4⟩
    obtain ⟨M5, hM5, hG5⟩ : ∃ M5, M5 = M4 ∧ Grow w0.heap.size M4 M5 := ⟨M4, rfl, Grow.refl _ _⟩
    subst hM5
    change Bs M5 a3 ((Mac.exp key text i).drop (32 * i - 32) ++ text ++ [UInt8.ofNat (i + 1)]) at hmsg
    refine WL.step rfl (Stp.callG (args := [_, _]) rfl rfl rfl cal109 rfl rfl hS (qmac_ok _ _ key (((Mac.exp key text i).drop (32 * i - 32) ++ text ++ [UInt8.ofNat (i + 1)])) _ _ hS.on (hkey.mono (((((hG1.trans hGJ).trans hG2).trans hG3).trans hG4).trans hG5).1) hmsg hlen (by simp; omega)) ?_)
    rintro _ w _ hS _ ⟨rfl, rfl⟩
    refine WL.step rfl (Stp.alloc (cs := bs (List.replicate 32 0)) rfl z143 rfl rfl rfl hS ?_)
    intro b11 w hb11 hS hkp hnw
    refine WL.step rfl (Stp.storeAllB 0 rfl rfl rfl sz143 rfl hS rfl ⟨List.length_replicate .., Mac.sum_length _ _⟩ ?_)
    intro w hS hpt
    refine WL.nil (Thn_n ?_)
    refine CW.seq ?_
    have hF := hS.freezeG (i := 0) rfl hb11
    obtain ⟨M6, hG6, hdg, hS⟩ : ∃ M6, Grow w0.heap.size M5 M6 ∧ Bs M6 (.slice (some ⟨b11, 0, none⟩) 32 32) (Mac.sum key ((Mac.exp key text i).drop (32 * i - 32) ++ text ++ [UInt8.ofNat (i + 1)])) ∧ St w0 w M6 gg := ⟨_, hF.2, Bs.of' (PH.add_self _ _ _) (Mac.sum_length _ _) (by omega), hF.1⟩
    refine CW.region ?_
    refine WL.step rfl (Stp.lit (vals := []) (cs := bs []) (e := 5) rfl rfl (fun _ => by kernel_rfl) rfl rfl hS ?_)
    intro b36 w hb36 hS hkp hnw
    refine WL.step rfl (Stp.res rfl rfl (Res.sliceA rfl rfl underlying143 (by decide) sz5) ?_)
    refine WL.step rfl (Stp.appendB (l := []) (r := Mac.sum key ((Mac.exp key text i).drop (32 * i - 32) ++ text ++ [UInt8.ofNat (i + 1)])) rfl rfl rfl rfl et30 (Src.ofBs underlying30 hS hdg) hS (OwnB.of hb36 (Nat.le_refl 0) (by omega) [] rfl rfl) (by rw [Mac.sum_length]; decide) rfl rfl ?_)
    intro a4 w g4 hS hown4
    obtain ⟨M7, hS, hle7, hfr7, hlast2⟩ := hown4.give hS
    have hG7 : Grow w0.heap.size M6 M7 := ⟨hle7, hfr7⟩
    change Bs M7 a4 (Mac.sum key ((Mac.exp key text i).drop (32 * i - 32) ++ text ++ [UInt8.ofNat (i + 1)])) at hlast2
    refine WL.step rfl (Stp.res rfl rfl (Res.assign rfl rfl) ?_)
    refine WL.nil (Thn_n ?_)
    subst hgg
    refine CW.region ?_
    refine WL.step rfl (Stp.res rfl rfl (Res.move rfl rfl) ?_)
    refine WL.step rfl (Stp.res rfl rfl (Res.move rfl rfl) ?_)
    refine WL.step rfl (Stp.appendB (l := Mac.exp key text i) (r := Mac.sum key ((Mac.exp key text i).drop (32 * i - 32) ++ text ++ [UInt8.ofNat (i + 1)])) rfl rfl rfl rfl et30 (Src.ofBs underlying30 hS hlast2) hS hown (by rw [Mac.exp_length, Mac.sum_length]; omega) rfl rfl ?_)
    intro ov2 w g5 hS hown
    rw [Mac.exp_succ] at hown
    refine WL.step rfl (Stp.res rfl rfl (Res.assign rfl rfl) ?_)
    refine WL.nil (Blk_n (Thn_n ?_))
    refine CW.region ?_
    refine WL.step rfl (Stp.res rfl rfl (Res.move rfl rfl) ?_)
    refine WL.step rfl (Stp.res rfl rfl (Res.add rfl rfl rfl (by omega)) ?_)
    refine WL.step rfl (Stp.res rfl rfl (Res.assign rfl rfl) ?_)
    refine WL.nil (Thn_n ?_)
    exact ⟨(i + 1, M7, _, ov2, g5), ⟨rfl, rfl, rfl, rfl, rfl, rfl, trivial⟩, ⟨by dsimp only; omega, (((((hGJ.trans hG2).trans hG3).trans hG4).trans hG5).trans hG6).trans hG7, hS, by dsimp only; rw [show 32 * (i + 1) - 32 = 32 * i by omega, ← Mac.exp_succ, Mac.exp_drop]; exact hlast2, hown⟩, by dsimp only; omega⟩
  · have hge : n ≤ 32 * i := by omega
    obtain ⟨ob, rest, cp, hob, hove, rfl, hc1, hc2⟩ := hown.gb (by omega)
    simp only [Value.slice.injEq] at hove
    obtain ⟨rfl, _, rfl⟩ := hove
    refine CW.exit (Thn_x (Thn_x (Blk_x (Thn_n ?_))))
    refine CW.seq ?_
    refine CW.region ?_
    refine WL.step rfl (Stp.res rfl rfl (Res.move rfl rfl) ?_)
    refine WL.step rfl (Stp.res rfl rfl (Res.move rfl rfl) ?_)
    refine WL.step rfl (Stp.res rfl rfl (Res.sliceHi (h := n) rfl rfl rfl underlying30 sz5 (by omega)) ?_)
    refine WL.step rfl (Stp.res rfl rfl (Res.assign rfl rfl) ?_)
    refine WL.step rfl (Stp.res rfl rfl (Res.assign rfl rfl) ?_)
    refine WL.nil (Thn_n ?_)
    refine CW.ret ?_
    have hF := hS.freezeG (i := 0) rfl hob
    have hres := Bs.ofGb (k := n) (cap := _) (PH.add_self MJ ob (.cells (Gb (Mac.exp key text i) rest) 5 (0, 0))) (by omega) (by omega) hc2
    rw [Mac.exp_take hge hi] at hres
    have hGA := (hG1.trans hGJ).trans hF.2
    exact fq_tmp2 rfl rfl rfl ⟨_, hF.1, hGA.1, hGA.2, _, rfl, hres⟩
end Go.Proofs.YtcmgimicdcchlaaGreatDoor
