/- Lemmas on the way to the statement; no condition of its own. -/
import Derived.Test.YtcmgimicdcchlaaGreatDoorQE2
import Derived.Test.YtcmgimicdcchlaaGreatDoorZX0
set_option linter.unusedVariables false
set_option maxRecDepth 20000
namespace Go.Proofs.YtcmgimicdcchlaaGreatDoor
open Go.Proofs.Tryz
open Go Go.E
end Go.Proofs.YtcmgimicdcchlaaGreatDoor
set_option linter.unusedVariables false
set_option maxRecDepth 20000
namespace Go.Proofs.YtcmgimicdcchlaaGreatDoor
open Go.Proofs.Tryz
open Go Go.E
theorem tnames_ok (vb vo n vc : Nat) (l : List (List UInt8)) (w0 : World) (M : PH) (hM : On M w0) (hn : l.length = n) (hn9 : n ≤ 1000) (hv : ∀ j, j < n → M.cell vb (vo + j) = some (Go.E.str (l.getD j []))) (hok : ∀ j, j < n → Tick.okName (l.getD j [])) : Ok Tryz.prog 112 #[.slice (some ⟨vb, vo, none⟩) n vc] w0 M (fun M' r => M = M' ∧ r = .nilIface) := by
  have hS := hM.st
  refine enterB (l := [.slice (some ⟨vb, vo, none⟩) n vc]) 21 func112 rfl ntmps112 rfl ?_
  refine CW.seq ?_
  refine CW.region ?_
  refine WL.step rfl (Stp.res rfl rfl (Res.assign rfl rfl) ?_)
  refine WL.nil (Thn_n ?_)
  refine CW.seq ?_
  refine CW.seq ?_
  refine CW.region ?_
  refine WL.step rfl (Stp.res rfl rfl (Res.move rfl rfl) ?_)
  refine WL.step rfl (Stp.res rfl rfl (Res.len rfl rfl rfl rfl underlying194) ?_)
  refine WL.step rfl (Stp.res rfl rfl (Res.move rfl rfl) ?_)
  refine WL.nil (Thn_n ?_)
  refine CW.block ?_
  refine CW.loop (σ := Nat) (fun i => [(5, .slice (some ⟨vb, vo, none⟩) n vc), (6, .int .i64 (n : Int)), (7, .int .i64 (i : Int))])
    (fun i w' => i ≤ n ∧ St w0 w' M []) (fun i => n - i) 0 ⟨rfl, rfl, rfl, trivial⟩ ⟨by omega, hS⟩ ?_
  rintro i w1 ⟨hi, hS⟩
  refine CW.seq ?_
  refine CW.region ?_
  refine WL.step rfl (Stp.res rfl rfl (Res.lss rfl rfl rfl) ?_)
  refine WL.nil (Thn_n ?_)
  refine CW.seq ?_
  refine CW.ite rfl (fun h => ?_) (fun h => ?_)
  · have hlt : i < n := by omega
    obtain ⟨hs1, hs2⟩ := hok i hlt
    refine CW.skip (Thn_n ?_)
    refine CW.seq ?_
    refine CW.block ?_
    refine CW.seq ?_
    refine CW.region ?_
    refine WL.step rfl (Stp.res rfl rfl (Res.idxS1 (k := i) rfl rfl rfl underlying194 sz9 (Int.toNat_natCast _) (by omega)) ?_)
    refine WL.step rfl (Stp.res rfl rfl (Res.load1 (v := Go.E.str (l.getD i [])) rfl rfl underlying9 rfl (hS.cell (hv i hlt))) ?_)
    refine WL.step rfl (Stp.res rfl rfl (Res.assign rfl rfl) ?_)
    refine WL.nil (Thn_n ?_)
    refine CW.seq ?_
    refine CW.region ?_
    refine WL.step rfl (Stp.res rfl rfl (Res.move rfl rfl) ?_)
    refine WL.step rfl (Stp.res rfl rfl (Res.toF (Res.eqlS (a := l.getD i []) (b := []) rfl rfl rfl) (fun e => by rw [e] at hs1; simp at hs1)) ?_)
    refine WL.step rfl (Stp.res rfl rfl (Res.move rfl rfl) ?_)
    refine WL.stepG 2 false rfl rfl rfl rfl (Stp.res rfl rfl (Res.move rfl rfl) ?_)
    refine WL.stepG 2 false rfl rfl rfl rfl (Stp.res rfl rfl (Res.cast (Res.lenStr rfl rfl rfl rfl underlying9) (v' := .int .i64 ((l.getD i []).length : Int)) (by simp [ByteArray.size])) ?_)
    refine WL.stepG 2 false rfl rfl rfl rfl (Stp.res rfl rfl (Res.toF (Res.gtr rfl rfl rfl) (by omega)) ?_)
    refine WL.step rfl (Stp.res rfl rfl (Res.pickF rfl rfl rfl) ?_)
    refine WL.nil (Thn_n ?_)
    refine CW.condF rfl ?_
    refine CW.skip (Blk_n (Thn_n ?_))
    refine CW.region ?_
    refine WL.step rfl (Stp.res rfl rfl (Res.add rfl rfl rfl (by omega)) ?_)
    refine WL.step rfl (Stp.res rfl rfl (Res.move rfl rfl) ?_)
    refine WL.nil (Thn_n ?_)
    exact ⟨i + 1, ⟨rfl, rfl, rfl, trivial⟩, ⟨by omega, hS⟩, by omega⟩
  · have hge : n ≤ i := by omega
    refine CW.exit (Thn_x (Thn_x (Blk_x (Thn_n ?_))))
    refine CW.seq ?_
    refine CW.region ?_
    refine WL.step rfl (Stp.res rfl rfl (Res.assign rfl rfl) ?_)
    refine WL.nil (Thn_n ?_)
    refine CW.ret ?_
    exact fq_tmp rfl rfl ⟨M, hS, PH.le.refl _, Fresh.refl _ _, rfl, rfl⟩
theorem ttimes_ok (vb vo n vc : Nat) (l : List Int) (w0 : World) (M : PH) (hM : On M w0) (hn : l.length = n) (hn9 : n ≤ 1000) (hv : ∀ j, j < n → M.cell vb (vo + j) = some (.int .i64 (l.getD j 0))) (hok : ∀ j, j < n → Tick.okTime (l.getD j 0)) : Ok Tryz.prog 113 #[.slice (some ⟨vb, vo, none⟩) n vc] w0 M (fun M' r => M = M' ∧ r = .nilIface) := by
  have hS := hM.st
  refine enterB (l := [.slice (some ⟨vb, vo, none⟩) n vc]) 20 func113 rfl ntmps113 rfl ?_
  refine CW.seq ?_
  refine CW.region ?_
  refine WL.step rfl (Stp.res rfl rfl (Res.assign rfl rfl) ?_)
  refine WL.nil (Thn_n ?_)
  refine CW.seq ?_
  refine CW.seq ?_
  refine CW.region ?_
  refine WL.step rfl (Stp.res rfl rfl (Res.move rfl rfl) ?_)
  refine WL.step rfl (Stp.res rfl rfl (Res.len rfl rfl rfl rfl underlying117) ?_)
  refine WL.step rfl (Stp.res rfl rfl (Res.move rfl rfl) ?_)
  refine WL.nil (Thn_n ?_)
  refine CW.block ?_
  refine CW.loop (σ := Nat) (fun i => [(5, .slice (some ⟨vb, vo, none⟩) n vc), (6, .int .i64 (n : Int)), (7, .int .i64 (i : Int))])
    (fun i w' => i ≤ n ∧ St w0 w' M []) (fun i => n - i) 0 ⟨rfl, rfl, rfl, trivial⟩ ⟨by omega, hS⟩ ?_
  rintro i w1 ⟨hi, hS⟩
  refine CW.seq ?_
  refine CW.region ?_
  refine WL.step rfl (Stp.res rfl rfl (Res.lss rfl rfl rfl) ?_)
  refine WL.nil (Thn_n ?_)
  refine CW.seq ?_
  refine CW.ite rfl (fun h => ?_) (fun h => ?_)
  · have hlt : i < n := by omega
    obtain ⟨hs1, hs2⟩ := hok i hlt
    refine CW.skip (Thn_n ?_)
    refine CW.seq ?_
    refine CW.block ?_
    refine CW.seq ?_
    refine CW.region ?_
    refine WL.step rfl (Stp.res rfl rfl (Res.idxS1 (k := i) rfl rfl rfl underlying117 sz3 (Int.toNat_natCast _) (by omega)) ?_)
    refine WL.step rfl (Stp.res rfl rfl (Res.load1 (v := .int .i64 (l.getD i 0)) rfl rfl underlying3 rfl (hS.cell (hv i hlt))) ?_)
    refine WL.step rfl (Stp.res rfl rfl (Res.assign rfl rfl) ?_)
    refine WL.nil (Thn_n ?_)
    refine CW.seq ?_
    refine CW.region ?_
    refine WL.step rfl (Stp.res rfl rfl (Res.move rfl rfl) ?_)
    refine WL.step rfl (Stp.res rfl rfl (Res.toF (Res.lss rfl rfl rfl) (by omega)) ?_)
    refine WL.step rfl (Stp.res rfl rfl (Res.move rfl rfl) ?_)
    refine WL.stepG 2 false rfl rfl rfl rfl (Stp.res rfl rfl (Res.move rfl rfl) ?_)
    refine WL.stepG 2 false rfl rfl rfl rfl (Stp.res rfl rfl (Res.toF (Res.gtr rfl rfl rfl) (by omega)) ?_)
    refine WL.step rfl (Stp.res rfl rfl (Res.pickF rfl rfl rfl) ?_)
    refine WL.nil (Thn_n ?_)
    refine CW.condF rfl ?_
    refine CW.skip (Blk_n (Thn_n ?_))
    refine CW.region ?_
    refine WL.step rfl (Stp.res rfl rfl (Res.add rfl rfl rfl (by omega)) ?_)
    refine WL.step rfl (Stp.res rfl rfl (Res.move rfl rfl) ?_)
    refine WL.nil (Thn_n ?_)
    exact ⟨i + 1, ⟨rfl, rfl, rfl, trivial⟩, ⟨by omega, hS⟩, by omega⟩
  · have hge : n ≤ i := by omega
    refine CW.exit (Thn_x (Thn_x (Blk_x (Thn_n ?_))))
    refine CW.seq ?_
    refine CW.region ?_
    refine WL.step rfl (Stp.res rfl rfl (Res.assign rfl rfl) ?_)
    refine WL.nil (Thn_n ?_)
    refine CW.ret ?_
    exact fq_tmp rfl rfl ⟨M, hS, PH.le.refl _, Fresh.refl _ _, rfl, rfl⟩
theorem join_ok (vb : Nat) (w0 : World) (M : PH) (hM : On M w0) (hv : ∀ j, j < 2 → M.cell vb j = some .nilIface) : Ok Tryz.prog 111 #[.slice (some ⟨vb, 0, none⟩) 2 2] w0 M (fun M' r => M = M' ∧ r = .nilIface) := by
  have hS := hM.st
  refine enterB (l := [.slice (some ⟨vb, 0, none⟩) 2 2]) 47 func111 rfl ntmps111 rfl ?_
  refine CW.seq ?_
  refine CW.region ?_
  refine WL.step rfl (Stp.res rfl rfl (Res.assign rfl rfl) ?_)
  refine WL.nil (Thn_n ?_)
  refine CW.seq ?_
  refine CW.region ?_
  refine WL.step rfl (Stp.res rfl rfl (Res.assign rfl rfl) ?_)
  refine WL.nil (Thn_n ?_)
  refine CW.seq ?_
  refine CW.seq ?_
  refine CW.region ?_
  refine WL.step rfl (Stp.res rfl rfl (Res.move rfl rfl) ?_)
  refine WL.step rfl (Stp.res rfl rfl (Res.len rfl rfl rfl rfl underlying190) ?_)
  refine WL.step rfl (Stp.res rfl rfl (Res.move rfl rfl) ?_)
  refine WL.nil (Thn_n ?_)
  refine CW.block ?_
  refine CW.loop (σ := Nat) (fun i => [(3, .int .i64 0), (9, .slice (some ⟨vb, 0, none⟩) 2 2), (10, .int .i64 2), (11, .int .i64 (i : Int))])
    (fun i w' => i ≤ 2 ∧ St w0 w' M []) (fun i => 2 - i) 0 ⟨rfl, rfl, rfl, rfl, trivial⟩ ⟨by omega, hS⟩ ?_
  rintro i w1 ⟨hi, hS⟩
  refine CW.seq ?_
  refine CW.region ?_
  refine WL.step rfl (Stp.res rfl rfl (Res.lss rfl rfl rfl) ?_)
  refine WL.nil (Thn_n ?_)
  refine CW.seq ?_
  refine CW.ite rfl (fun h => ?_) (fun h => ?_)
  · have hlt : i < 2 := by omega
    refine CW.skip (Thn_n ?_)
    refine CW.seq ?_
    refine CW.block ?_
    refine CW.seq ?_
    refine CW.region ?_
    refine WL.step rfl (Stp.res rfl rfl (Res.idxS0 (k := i) rfl rfl rfl underlying190 sz86 (Int.toNat_natCast _) (by omega)) ?_)
    refine WL.step rfl (Stp.res rfl rfl (Res.load1 (v := .nilIface) rfl rfl underlying86 rfl (hS.cell (hv i hlt))) ?_)
    refine WL.step rfl (Stp.res rfl rfl (Res.assign rfl rfl) ?_)
    refine WL.nil (Thn_n ?_)
    refine CW.seq ?_
    refine CW.region ?_
    refine WL.step rfl (Stp.res rfl rfl (Res.move rfl rfl) ?_)
    refine WL.step rfl (Stp.res rfl rfl (Res.neqNN rfl rfl underlying86) ?_)
    refine WL.nil (Thn_n ?_)
    refine CW.condF rfl ?_
    refine CW.skip (Blk_n (Thn_n ?_))
    refine CW.region ?_
    refine WL.step rfl (Stp.res rfl rfl (Res.add rfl rfl rfl (by omega)) ?_)
    refine WL.step rfl (Stp.res rfl rfl (Res.move rfl rfl) ?_)
    refine WL.nil (Thn_n ?_)
    exact ⟨i + 1, ⟨rfl, rfl, rfl, rfl, trivial⟩, ⟨by omega, hS⟩, by omega⟩
  · have hge : 2 ≤ i := by omega
    refine CW.exit (Thn_x (Thn_x (Blk_x (Thn_n ?_))))
    refine CW.seq ?_
    refine CW.seq ?_
    refine CW.region ?_
    refine WL.step rfl (Stp.res rfl rfl (Res.move rfl rfl) ?_)
    refine WL.step rfl (Stp.res rfl rfl (Res.to (Res.eql rfl rfl rfl) (by rfl)) ?_)
    refine WL.nil (Thn_n ?_)
    refine CW.condT rfl ?_
    refine CW.seq ?_
    refine CW.region ?_
    refine WL.step rfl (Stp.res rfl rfl (Res.assign rfl rfl) ?_)
    refine WL.nil (Thn_n ?_)
    refine CW.ret (Thn_r ?_)
    exact fq_tmp rfl rfl ⟨M, hS, PH.le.refl _, Fresh.refl _ _, rfl, rfl⟩
end Go.Proofs.YtcmgimicdcchlaaGreatDoor
set_option linter.unusedVariables false
set_option maxRecDepth 20000
namespace Go.Proofs.YtcmgimicdcchlaaGreatDoor
open Go.Proofs.Tryz
open Go Go.E
theorem int8_ok (n : Nat) (w0 : World) (M : PH) (hM : On M w0) (hn : n ≤ 2305843009213693952) : Ok Tryz.prog 77 #[.int .i64 (n : Int)] w0 M (fun M' r => Bs M' r (Tick.be8 n)) := by
  have hS := hM.st
  refine enterB (l := [.int .i64 (n : Int)]) 18 func77 rfl ntmps77 rfl ?_
  refine CW.seq ?_
  refine CW.region ?_
  refine WL.step rfl (Stp.res rfl rfl (Res.assign rfl rfl) ?_)
  refine WL.nil (Thn_n ?_)
  refine CW.seq ?_
  refine CW.region ?_
  refine WL.step rfl (Stp.alloc (cs := bs (List.replicate 8 0)) rfl z154 rfl rfl rfl hS ?_)
  intro b3 w hb3 hS hkp hnw
  refine WL.nil (Thn_n ?_)
  refine CW.seq ?_
  refine CW.seq ?_
  refine CW.region ?_
  refine WL.step rfl (Stp.res rfl rfl (Res.move rfl rfl) ?_)
  refine WL.nil (Thn_n ?_)
  refine CW.block ?_
  refine CW.loop (σ := Nat) (fun i => [(0, .int .i64 (n : Int)), (3, .pointer (some ⟨b3, 0, none⟩)), (5, .int .i64 (i : Int))])
    (fun i w' => i ≤ 8 ∧ St w0 w' M [(b3, .cells (bs (Aes.upTo i (fun i => UInt8.ofNat (n / 2 ^ (56 - 8 * i))) (List.replicate 8 0))) 154 (0, 0))]) (fun i => 8 - i) 0 ⟨rfl, rfl, rfl, trivial⟩ ⟨by omega, by rw [Aes.upTo_zero]; exact hS⟩ ?_
  rintro i w1 ⟨hi, hS⟩
  refine CW.seq ?_
  refine CW.region ?_
  refine WL.step rfl (Stp.res rfl rfl (Res.lss rfl rfl rfl) ?_)
  refine WL.nil (Thn_n ?_)
  refine CW.seq ?_
  refine CW.ite rfl (fun h => ?_) (fun h => ?_)
  · have hlt : i < 8 := by omega
    refine CW.skip (Thn_n ?_)
    refine CW.seq ?_
    refine CW.block ?_
    refine CW.seq ?_
    refine CW.region ?_
    refine WL.step rfl (Stp.res rfl rfl (Res.move rfl rfl) ?_)
    refine WL.step rfl (Stp.res rfl rfl (Res.assign rfl rfl) ?_)
    refine WL.nil (Thn_n ?_)
    refine CW.region ?_
    refine WL.step rfl (Stp.res rfl rfl (Res.move rfl rfl) ?_)
    refine WL.step rfl (Stp.res rfl rfl (Res.move rfl rfl) ?_)
    refine WL.step rfl (Stp.res rfl rfl (Res.move rfl rfl) ?_)
    refine WL.step rfl (Stp.res rfl rfl (Res.mul rfl rfl rfl (by omega)) ?_)
    refine WL.step rfl (Stp.res rfl rfl (Res.cast (Res.sub rfl rfl rfl (by omega)) (v' := .int .i64 ((56 - 8 * i : Nat) : Int)) (by congr 1; omega)) ?_)
    refine WL.step rfl (Stp.res rfl rfl (Res.shrU (a := n) (s := 56 - 8 * i) rfl rfl rfl (by show 56 - 8 * i ≤ 64; omega)) ?_)
    refine WL.step rfl (Stp.res rfl rfl (Res.convB (k := n / 2 ^ (56 - 8 * i)) rfl rfl underlying3 underlying5) ?_)
    refine WL.step rfl (Stp.res rfl rfl (Res.idxA0 (k := i) rfl rfl rfl underlying154 sz5 (by omega) (by omega)) ?_)
    refine WL.step rfl (Stp.storeB 0 rfl rfl rfl sz5 rfl hS rfl (by simp; omega) ?_)
    intro w hS hpt
    rw [show ((Aes.upTo i (fun i => UInt8.ofNat (n / 2 ^ (56 - 8 * i))) (List.replicate 8 0)).set i (UInt8.ofNat (n / 2 ^ (56 - 8 * i)))) = Aes.upTo (i + 1) (fun i => UInt8.ofNat (n / 2 ^ (56 - 8 * i))) (List.replicate 8 0) from Aes.upTo_set ..] at hS
    refine WL.nil (Blk_n (Thn_n ?_))
    refine CW.region ?_
    refine WL.step rfl (Stp.res rfl rfl (Res.add rfl rfl rfl (by omega)) ?_)
    refine WL.step rfl (Stp.res rfl rfl (Res.move rfl rfl) ?_)
    refine WL.nil (Thn_n ?_)
    exact ⟨i + 1, ⟨rfl, rfl, rfl, trivial⟩, ⟨by omega, hS⟩, by omega⟩
  · obtain rfl : i = 8 := by omega
    refine CW.exit (Thn_x (Thn_x (Blk_x (Thn_n ?_))))
    refine CW.seq ?_
    refine CW.region ?_
    refine WL.step rfl (Stp.res rfl rfl (Res.sliceA rfl rfl underlying154 (by decide) sz5) ?_)
    refine WL.step rfl (Stp.res rfl rfl (Res.assign rfl rfl) ?_)
    refine WL.nil (Thn_n ?_)
    refine CW.ret ?_
    rw [Aes.upTo_all _ _ 8 (List.length_replicate ..)] at hS
    have hF := hS.freezeG (i := 0) rfl hb3
    exact fq_tmp rfl rfl ⟨_, hF.1, hF.2.1, hF.2.2, Bs.of' (PH.add_self _ _ _) (Tick.be8_length n) (by omega)⟩
theorem readint_ok (v : Value) (n : Nat) (w0 : World) (M : PH) (hM : On M w0) (hv : Bs M v (Tick.be8 n)) (hn : n ≤ 2305843009213693952) : Ok Tryz.prog 119 #[v] w0 M (fun M' r => M = M' ∧ r = .tuple #[.int .i64 (n : Int), .int .i64 0]) := by
  have hS := hM.st
  have hbl := Tick.be8_length n
  obtain ⟨vb, vo, vc, rfl, vc1, vc2, vcell⟩ := hv.at (by omega)
  refine enterB (l := [.slice (some ⟨vb, vo, none⟩) (Tick.be8 n).length vc]) 23 func119 rfl ntmps119 rfl ?_
  refine CW.seq ?_
  refine CW.region ?_
  refine WL.step rfl (Stp.res rfl rfl (Res.assign rfl rfl) ?_)
  refine WL.step rfl (Stp.res rfl rfl (Res.assign rfl rfl) ?_)
  refine WL.nil (Thn_n ?_)
  refine CW.seq ?_
  refine CW.seq ?_
  refine CW.region ?_
  refine WL.step rfl (Stp.res rfl rfl (Res.move rfl rfl) ?_)
  refine WL.step rfl (Stp.res rfl rfl (Res.len rfl rfl rfl rfl underlying30) ?_)
  refine WL.step rfl (Stp.res rfl rfl (Res.neq rfl rfl rfl) ?_)
  refine WL.nil (Thn_n ?_)
  refine CW.iteF rfl (by omega) ?_
  refine CW.skip (Thn_n ?_)
  refine CW.seq ?_
  refine CW.region ?_
  refine WL.step rfl (Stp.res rfl rfl (Res.assign rfl rfl) ?_)
  refine WL.nil (Thn_n ?_)
  refine CW.seq ?_
  refine CW.seq ?_
  refine CW.region ?_
  refine WL.step rfl (Stp.res rfl rfl (Res.move rfl rfl) ?_)
  refine WL.step rfl (Stp.res rfl rfl (Res.len rfl rfl rfl rfl underlying30) ?_)
  refine WL.step rfl (Stp.res rfl rfl (Res.move rfl rfl) ?_)
  refine WL.nil (Thn_n ?_)
  refine CW.block ?_
  refine CW.loop (σ := Nat) (fun k => [(4, .int .i64 ((n / 2 ^ (64 - 8 * k) : Nat) : Int)), (10, .slice (some ⟨vb, vo, none⟩) (Tick.be8 n).length vc), (11, .int .i64 8), (12, .int .i64 (k : Int))])
    (fun k w' => k ≤ 8 ∧ St w0 w' M []) (fun k => 8 - k) 0 ⟨intc (by have : n / 2 ^ (64 - 8 * 0) = 0 := Nat.div_eq_of_lt (by omega); omega), rfl, intc (by omega), rfl, trivial⟩ ⟨by omega, hS⟩ ?_
  rintro k w1 ⟨hk, hS⟩
  refine CW.seq ?_
  refine CW.region ?_
  refine WL.step rfl (Stp.res rfl rfl (Res.lss rfl rfl rfl) ?_)
  refine WL.nil (Thn_n ?_)
  refine CW.seq ?_
  refine CW.ite rfl (fun h2 => ?_) (fun h2 => ?_)
  · have hlt : k < 8 := by omega
    have hb8 := Tick.be8_at n hlt
    refine CW.skip (Thn_n ?_)
    refine CW.seq ?_
    refine CW.block ?_
    refine CW.seq ?_
    refine CW.region ?_
    refine WL.step rfl (Stp.res rfl rfl (Res.idxS1 (k := k) rfl rfl rfl underlying30 sz5 (Int.toNat_natCast _) (by omega)) ?_)
    refine WL.step rfl (Stp.res rfl rfl (Res.load1 (v := byte (UInt8.ofNat (n / 2 ^ (56 - 8 * k)))) rfl rfl underlying5 rfl (by rw [← hb8]; exact hS.cell (vcell k (by omega)))) ?_)
    refine WL.step rfl (Stp.res rfl rfl (Res.assign rfl rfl) ?_)
    refine WL.nil (Thn_n ?_)
    refine CW.region ?_
    refine WL.step rfl (Stp.res rfl rfl (Res.move rfl rfl) ?_)
    refine WL.step rfl (Stp.res rfl rfl (Res.shlI (a := n / 2 ^ (64 - 8 * k)) (s := 8) rfl rfl rfl (by decide) (by have := Tick.small_shift n hlt; omega)) ?_)
    refine WL.step rfl (Stp.res rfl rfl (Res.move rfl rfl) ?_)
    refine WL.step rfl (Stp.res rfl rfl (Res.convUp rfl rfl underlying5 underlying3) ?_)
    refine WL.step rfl (Stp.res rfl rfl (Res.cast (Res.orI (a := n / 2 ^ (64 - 8 * k) * 2 ^ 8) (b := (UInt8.ofNat (n / 2 ^ (56 - 8 * k))).toNat) rfl rfl rfl ⟨by have := Tick.small_shift n hlt; omega, by have := (UInt8.ofNat (n / 2 ^ (56 - 8 * k))).toNat_lt; omega⟩) (v' := .int .i64 ((n / 2 ^ (56 - 8 * k) : Nat) : Int)) (by rw [Tick.be8_step n hlt])) ?_)
    refine WL.step rfl (Stp.res rfl rfl (Res.assign rfl rfl) ?_)
    refine WL.nil (Blk_n (Thn_n ?_))
    refine CW.region ?_
    refine WL.step rfl (Stp.res rfl rfl (Res.add rfl rfl rfl (by omega)) ?_)
    refine WL.step rfl (Stp.res rfl rfl (Res.move rfl rfl) ?_)
    refine WL.nil (Thn_n ?_)
    exact ⟨k + 1, ⟨intc (by rw [show 64 - 8 * (k + 1) = 56 - 8 * k by omega]), rfl, rfl, rfl, trivial⟩, ⟨by omega, hS⟩, by omega⟩
  · obtain rfl : k = 8 := by omega
    refine CW.exit (Thn_x (Thn_x (Blk_x (Thn_n ?_))))
    refine CW.seq ?_
    refine CW.region ?_
    refine WL.step rfl (Stp.res rfl rfl (Res.move rfl rfl) ?_)
    refine WL.step rfl (Stp.res rfl rfl (Res.assign rfl rfl) ?_)
    refine WL.step rfl (Stp.res rfl rfl (Res.assign rfl rfl) ?_)
    refine WL.nil (Thn_n ?_)
    refine CW.ret ?_
    exact fq_tmp2 rfl rfl rfl ⟨M, hS, PH.le.refl _, Fresh.refl _ _, rfl, by simp⟩
end Go.Proofs.YtcmgimicdcchlaaGreatDoor
set_option linter.unusedVariables false
set_option maxRecDepth 20000
namespace Go.Proofs.YtcmgimicdcchlaaGreatDoor
open Go.Proofs.Tryz
open Go Go.E
theorem check_ok (v : Value) (ls : List (List UInt8)) (w0 : World) (M : PH) (hM : On M w0) (hv : Ft M v ls) (hn : ls.length ≤ 255) (hsz : (Tick.enc 0 ls).length ≤ 4096) : Ok Tryz.prog 148 #[v] w0 M (fun M' r => M = M' ∧ r = .nilIface) := by
  have hS := hM.st
  obtain ⟨fb, fc, rfl, f1, f2, f3⟩ := hv
  refine enterB (l := [.slice (some ⟨fb, 0, none⟩) ls.length fc]) 60 func148 rfl ntmps148 rfl ?_
  refine CW.seq ?_
  refine CW.region ?_
  refine WL.step rfl (Stp.res rfl rfl (Res.assign rfl rfl) ?_)
  refine WL.nil (Thn_n ?_)
  refine CW.seq ?_
  refine CW.seq ?_
  refine CW.region ?_
  refine WL.step rfl (Stp.res rfl rfl (Res.move rfl rfl) ?_)
  refine WL.step rfl (Stp.res rfl rfl (Res.len rfl rfl rfl rfl underlying114) ?_)
  refine WL.step rfl (Stp.res rfl rfl (Res.gtr rfl rfl rfl) ?_)
  refine WL.nil (Thn_n ?_)
  refine CW.iteF rfl (by omega) ?_
  refine CW.skip (Thn_n ?_)
  refine CW.seq ?_
  refine CW.region ?_
  refine WL.step rfl (Stp.res rfl rfl (Res.assign rfl rfl) ?_)
  refine WL.step rfl (Stp.res rfl rfl (Res.assign rfl rfl) ?_)
  refine WL.nil (Thn_n ?_)
  refine CW.seq ?_
  refine CW.region ?_
  refine WL.step rfl (Stp.res rfl rfl (Res.assign rfl rfl) ?_)
  refine WL.nil (Thn_n ?_)
  refine CW.seq ?_
  refine CW.seq ?_
  refine CW.region ?_
  refine WL.step rfl (Stp.res rfl rfl (Res.move rfl rfl) ?_)
  refine WL.step rfl (Stp.res rfl rfl (Res.len rfl rfl rfl rfl underlying114) ?_)
  refine WL.step rfl (Stp.res rfl rfl (Res.move rfl rfl) ?_)
  refine WL.nil (Thn_n ?_)
  refine CW.block ?_
  refine CW.loop (σ := Nat) (fun i => [(3, .int .i64 (i : Int)), (4, .int .i64 ((Tick.head ls i).length : Int)), (5, .nilIface), (14, .slice (some ⟨fb, 0, none⟩) ls.length fc), (15, .int .i64 (ls.length : Int)), (16, .int .i64 (i : Int))])
    (fun i w' => i ≤ ls.length ∧ St w0 w' M []) (fun i => ls.length - i) 0 ⟨rfl, rfl, rfl, rfl, rfl, rfl, trivial⟩ ⟨by omega, hS⟩ ?_
  rintro i w1 ⟨hi, hS⟩
  refine CW.seq ?_
  refine CW.region ?_
  refine WL.step rfl (Stp.res rfl rfl (Res.lss rfl rfl rfl) ?_)
  refine WL.nil (Thn_n ?_)
  refine CW.seq ?_
  refine CW.ite rfl (fun h2 => ?_) (fun h2 => ?_)
  · have hlt : i < ls.length := by omega
    obtain ⟨ya, yl, yc, e1, e2, e3⟩ := f3 i hlt
    obtain ⟨rfl, hy1, hy2⟩ := e3.len
    have hgl := Tick.getD_le (ls := ls) (j := i) (by omega)
    have hhl := Tick.head_len (ls := ls) (j := i) hlt
    have hhe := Tick.head_le ls (i + 1)
    refine CW.skip (Thn_n ?_)
    refine CW.seq ?_
    refine CW.block ?_
    refine CW.seq ?_
    refine CW.region ?_
    refine WL.step rfl (Stp.res rfl rfl (Res.move rfl rfl) ?_)
    refine WL.step rfl (Stp.res rfl rfl (Res.idxS 2 (k := i) rfl rfl rfl underlying114 sz113 (Int.toNat_natCast _) (by omega)) ?_)
    refine WL.step rfl (Stp.res rfl rfl (Res.loadN (i := 0 + i * 2) (r := [.int .i64 ((i + 1 : Nat) : Int), .slice ya (ls.getD i []).length yc]) rfl rfl underlying113 rfl sz113 rfl (hS.two e1 e2)) ?_)
    refine WL.step rfl (Stp.alloc (cs := #[.int .i64 0, .slice none 0 0]) rfl zFld rfl rfl rfl hS ?_)
    intro b7 w hb7 hS hkp hnw
    refine WL.step rfl (Stp.res rfl rfl (Res.assign rfl rfl) ?_)
    refine WL.step rfl (Stp.storeAll 0 rfl rfl rfl sz113 one2 rfl hS rfl rfl ?_)
    intro w hS hpt
    change St w0 w M ((b7, .cells #[.int .i64 ((i + 1 : Nat) : Int), .slice ya (ls.getD i []).length yc] 113 (0, 0)) :: []) at hS
    refine WL.nil (Thn_n ?_)
    refine CW.seq ?_
    refine CW.seq ?_
    refine CW.region ?_
    refine WL.step rfl (Stp.res rfl rfl (Res.fieldA rfl rfl underlying113 rfl (show SZ Tryz.prog _ 1 from sz3) (by decide)) ?_)
    refine WL.step rfl (Stp.res rfl rfl (Res.load1 (v := .int .i64 ((i + 1 : Nat) : Int)) rfl rfl underlying3 rfl (hS.ocell (i := 0) rfl rfl)) ?_)
    refine WL.step rfl (Stp.res rfl rfl (Res.move rfl rfl) ?_)
    refine WL.step rfl (Stp.res rfl rfl (Res.toF (Res.leq rfl rfl rfl) (by omega)) ?_)
    refine WL.step rfl (Stp.res rfl rfl (Res.move rfl rfl) ?_)
    refine WL.stepG 4 false rfl rfl rfl rfl (Stp.res rfl rfl (Res.fieldA rfl rfl underlying113 rfl (show SZ Tryz.prog _ 1 from sz3) (by decide)) ?_)
    refine WL.stepG 4 false rfl rfl rfl rfl (Stp.res rfl rfl (Res.load1 (v := .int .i64 ((i + 1 : Nat) : Int)) rfl rfl underlying3 rfl (hS.ocell (i := 0) rfl rfl)) ?_)
    refine WL.stepG 4 false rfl rfl rfl rfl (Stp.res rfl rfl (Res.toF (Res.gtr rfl rfl rfl) (by omega)) ?_)
    refine WL.step rfl (Stp.res rfl rfl (Res.pickF rfl rfl rfl) ?_)
    refine WL.step rfl (Stp.res rfl rfl (Res.move rfl rfl) ?_)
    refine WL.stepG 9 false rfl rfl rfl rfl (Stp.res rfl rfl (Res.fieldA rfl rfl underlying113 rfl (show SZ Tryz.prog _ 1 from sz30) (by decide)) ?_)
    refine WL.stepG 9 false rfl rfl rfl rfl (Stp.res rfl rfl (Res.load1 (v := .slice ya (ls.getD i []).length yc) rfl rfl underlying30 rfl (hS.ocell (i := 0) rfl rfl)) ?_)
    refine WL.stepG 9 false rfl rfl rfl rfl (Stp.res rfl rfl (Res.len rfl rfl rfl rfl underlying30) ?_)
    refine WL.stepG 9 false rfl rfl rfl rfl (Stp.res rfl rfl (Res.toF (Res.gtr rfl rfl rfl) (by omega)) ?_)
    refine WL.step rfl (Stp.res rfl rfl (Res.pickF rfl rfl rfl) ?_)
    refine WL.nil (Thn_n ?_)
    refine CW.condF rfl ?_
    refine CW.skip (Thn_n ?_)
    refine CW.seq ?_
    refine CW.region ?_
    refine WL.step rfl (Stp.res rfl rfl (Res.fieldA rfl rfl underlying113 rfl (show SZ Tryz.prog _ 1 from sz3) (by decide)) ?_)
    refine WL.step rfl (Stp.res rfl rfl (Res.load1 (v := .int .i64 ((i + 1 : Nat) : Int)) rfl rfl underlying3 rfl (hS.ocell (i := 0) rfl rfl)) ?_)
    refine WL.step rfl (Stp.res rfl rfl (Res.assign rfl rfl) ?_)
    refine WL.nil (Thn_n ?_)
    refine CW.seq ?_
    refine CW.region ?_
    refine WL.step rfl (Stp.res rfl rfl (Res.move rfl rfl) ?_)
    refine WL.step rfl (Stp.res rfl rfl (Res.fieldA rfl rfl underlying113 rfl (show SZ Tryz.prog _ 1 from sz30) (by decide)) ?_)
    refine WL.step rfl (Stp.res rfl rfl (Res.load1 (v := .slice ya (ls.getD i []).length yc) rfl rfl underlying30 rfl (hS.ocell (i := 0) rfl rfl)) ?_)
    refine WL.step rfl (Stp.res rfl rfl (Res.len rfl rfl rfl rfl underlying30) ?_)
    refine WL.step rfl (Stp.res rfl rfl (Res.add rfl rfl rfl (by omega)) ?_)
    refine WL.step rfl (Stp.res rfl rfl (Res.cast (Res.add rfl rfl rfl (by omega)) (v' := .int .i64 ((Tick.head ls (i + 1)).length : Int)) (by congr 1; omega)) ?_)
    refine WL.step rfl (Stp.res rfl rfl (Res.assign rfl rfl) ?_)
    refine WL.nil (Thn_n ?_)
    refine CW.seq ?_
    refine CW.region ?_
    refine WL.step rfl (Stp.res rfl rfl (Res.move rfl rfl) ?_)
    refine WL.step rfl (Stp.res rfl rfl (Res.toF (Res.gtr rfl rfl rfl) (by omega)) ?_)
    refine WL.step rfl (Stp.res rfl rfl (Res.move rfl rfl) ?_)
    refine WL.skipG 2 true rfl rfl rfl rfl rfl rfl ?_
    refine WL.skipG 2 true rfl rfl rfl rfl rfl rfl ?_
    refine WL.step rfl (Stp.res rfl rfl (Res.pickF rfl rfl rfl) ?_)
    refine WL.nil (Thn_n ?_)
    refine CW.condF rfl ?_
    refine CW.skip (Blk_n (Thn_n ?_))
    refine CW.region ?_
    refine WL.step rfl (Stp.res rfl rfl (Res.add rfl rfl rfl (by omega)) ?_)
    refine WL.step rfl (Stp.res rfl rfl (Res.move rfl rfl) ?_)
    refine WL.nil (Thn_n ?_)
    exact ⟨i + 1, ⟨rfl, rfl, rfl, rfl, rfl, rfl, trivial⟩, ⟨by omega, hS.drop (i := 0) rfl hb7⟩, by omega⟩
  · have hge : ls.length ≤ i := by omega
    refine CW.exit (Thn_x (Thn_x (Blk_x (Thn_n ?_))))
    refine CW.seq ?_
    refine CW.region ?_
    refine WL.step rfl (Stp.res rfl rfl (Res.move rfl rfl) ?_)
    refine WL.step rfl (Stp.res rfl rfl (Res.assign rfl rfl) ?_)
    refine WL.nil (Thn_n ?_)
    refine CW.ret ?_
    exact fq_tmp rfl rfl ⟨M, hS, PH.le.refl _, Fresh.refl _ _, rfl, rfl⟩
theorem put_ok (v : Value) (ls : List (List UInt8)) (w0 : World) (M : PH) (hM : On M w0) (hv : Ft M v ls) (hn : ls.length ≤ 255) (hsz : (Tick.enc 0 ls).length ≤ 4096) : Ok Tryz.prog 115 #[v] w0 M (fun M' r => ∃ s, r = .tuple #[s, .int .i64 0] ∧ Bs M' s (Tick.enc 0 ls)) := by
  have hS := hM.st
  have hv0 := hv
  obtain ⟨fb, fc, rfl, f1, f2, f3⟩ := hv
  refine enterB (l := [.slice (some ⟨fb, 0, none⟩) ls.length fc]) 41 func115 rfl ntmps115 rfl ?_
  refine CW.seq ?_
  refine CW.region ?_
  refine WL.step rfl (Stp.res rfl rfl (Res.assign rfl rfl) ?_)
  refine WL.step rfl (Stp.res rfl rfl (Res.assign rfl rfl) ?_)
  refine WL.nil (Thn_n ?_)
  refine CW.seq ?_
  refine CW.seq ?_
  refine CW.region ?_
  refine WL.step rfl (Stp.res rfl rfl (Res.move rfl rfl) ?_)
  refine WL.step rfl (Stp.callG (args := [_]) rfl rfl rfl cal148 rfl rfl hS (check_ok _ ls _ _ hS.on hv0 hn hsz) ?_)
  rintro _ w _ hS _ ⟨rfl, rfl⟩
  refine WL.step rfl (Stp.res rfl rfl (Res.assign rfl rfl) ?_)
  refine WL.nil (Thn_n ?_)
  refine CW.seq ?_
  refine CW.region ?_
  refine WL.step rfl (Stp.res rfl rfl (Res.move rfl rfl) ?_)
  refine WL.step rfl (Stp.res rfl rfl (Res.neqNN rfl rfl underlying86) ?_)
  refine WL.nil (Thn_n ?_)
  refine CW.condF rfl ?_
  refine CW.skip (Thn_n ?_)
  refine CW.seq ?_
  refine CW.region ?_
  refine WL.step rfl (Stp.res rfl rfl (Res.assign rfl rfl) ?_)
  refine WL.nil (Thn_n ?_)
  refine CW.seq ?_
  refine CW.seq ?_
  refine CW.region ?_
  refine WL.step rfl (Stp.res rfl rfl (Res.move rfl rfl) ?_)
  refine WL.step rfl (Stp.res rfl rfl (Res.len rfl rfl rfl rfl underlying114) ?_)
  refine WL.step rfl (Stp.res rfl rfl (Res.move rfl rfl) ?_)
  refine WL.nil (Thn_n ?_)
  refine CW.block ?_
  refine CW.loop (σ := Nat × PH × Value × Owned) (fun s => [(5, s.2.2.1), (15, .slice (some ⟨fb, 0, none⟩) ls.length fc), (16, .int .i64 (ls.length : Int)), (17, .int .i64 (s.1 : Int))])
    (fun s w' => s.1 ≤ ls.length ∧ Grow w0.heap.size M s.2.1 ∧ St w0 w' s.2.1 (s.2.2.2 ++ []) ∧ OwnB w0.heap.size s.2.2.2 s.2.2.1 (Tick.head ls s.1) 5) (fun s => ls.length - s.1) (0, M, _, []) ⟨rfl, rfl, rfl, rfl, trivial⟩ ⟨by dsimp only; omega, Grow.refl _ _, hS, OwnB.nil _ _⟩ ?_
  rintro ⟨i, MJ, vj, g⟩ w1 ⟨hi, hGJ, hS, hown⟩
  dsimp only at hi hGJ hS hown ⊢
  refine CW.seq ?_
  refine CW.region ?_
  refine WL.step rfl (Stp.res rfl rfl (Res.lss rfl rfl rfl) ?_)
  refine WL.nil (Thn_n ?_)
  refine CW.seq ?_
  refine CW.ite rfl (fun h => ?_) (fun h => ?_)
  · have hlt : i < ls.length := by omega
    obtain ⟨ya, yl, yc, e1, e2, e3⟩ := f3 i hlt
    obtain ⟨rfl, hy1, hy2⟩ := e3.len
    have hgl := Tick.getD_le (ls := ls) (j := i) (by omega)
    have hhl := Tick.head_len (ls := ls) (j := i) hlt
    have hhe := Tick.head_le ls (i + 1)
    refine CW.skip (Thn_n ?_)
    refine CW.seq ?_
    refine CW.block ?_
    refine CW.seq ?_
    refine CW.region ?_
    refine WL.step rfl (Stp.res rfl rfl (Res.idxS 2 (k := i) rfl rfl rfl underlying114 sz113 (Int.toNat_natCast _) (by omega)) ?_)
    refine WL.step rfl (Stp.res rfl rfl (Res.loadN (i := 0 + i * 2) (r := [.int .i64 ((i + 1 : Nat) : Int), .slice ya (ls.getD i []).length yc]) rfl rfl underlying113 rfl sz113 rfl (hS.two (PH.cell_mono hGJ.1 e1) (PH.cell_mono hGJ.1 e2))) ?_)
    refine WL.step rfl (Stp.alloc (cs := #[.int .i64 0, .slice none 0 0]) rfl zFld rfl rfl rfl hS ?_)
    intro b7 w hb7 hS hkp hnw
    refine WL.step rfl (Stp.storeAll 0 rfl rfl rfl sz113 one2 rfl hS rfl rfl ?_)
    intro w hS hpt
    change St w0 w MJ ((b7, .cells #[.int .i64 ((i + 1 : Nat) : Int), .slice ya (ls.getD i []).length yc] 113 (0, 0)) :: (g ++ [])) at hS
    refine WL.nil (Thn_n ?_)
    refine CW.seq ?_
    have hF := hS.freezeG (i := 0) rfl hb7
    obtain ⟨M4, hG4, h7, hS⟩ : ∃ M4, Grow w0.heap.size MJ M4 ∧ M4 b7 = some (.cells #[.int .i64 ((i + 1 : Nat) : Int), .slice ya (ls.getD i []).length yc] 113 (0, 0)) ∧ St w0 w M4 (g ++ []) := ⟨_, hF.2, PH.add_self _ _ _, hF.1⟩
    refine CW.region ?_
    refine WL.step rfl (Stp.res rfl rfl (Res.fieldA rfl rfl underlying113 rfl (show SZ Tryz.prog _ 1 from sz30) (by decide)) ?_)
    refine WL.step rfl (Stp.res rfl rfl (Res.load1 (v := .slice ya (ls.getD i []).length yc) rfl rfl underlying30 rfl (hS.cell (PH.cell_of h7 rfl))) ?_)
    refine WL.step rfl (Stp.res rfl rfl (Res.len rfl rfl rfl rfl underlying30) ?_)
    refine WL.step rfl (Stp.res rfl rfl (Res.assign rfl rfl) ?_)
    refine WL.nil (Thn_n ?_)
    refine CW.seq ?_
    refine CW.region ?_
    refine WL.step rfl (Stp.res rfl rfl (Res.move rfl rfl) ?_)
    refine WL.step rfl (Stp.res rfl rfl (Res.fieldA rfl rfl underlying113 rfl (show SZ Tryz.prog _ 1 from sz3) (by decide)) ?_)
    refine WL.step rfl (Stp.res rfl rfl (Res.load1 (v := .int .i64 ((i + 1 : Nat) : Int)) rfl rfl underlying3 rfl (hS.cell (PH.cell_of h7 rfl))) ?_)
    refine WL.step rfl (Stp.res rfl rfl (Res.convB (k := i + 1) rfl rfl underlying3 underlying5) ?_)
    refine WL.step rfl (Stp.res rfl rfl (Res.move rfl rfl) ?_)
    refine WL.step rfl (Stp.res rfl rfl (Res.shrU (a := (ls.getD i []).length) (s := 8) rfl rfl rfl (by decide)) ?_)
    refine WL.step rfl (Stp.res rfl rfl (Res.convB (k := (ls.getD i []).length / 2 ^ 8) rfl rfl underlying3 underlying5) ?_)
    refine WL.step rfl (Stp.res rfl rfl (Res.move rfl rfl) ?_)
    refine WL.step rfl (Stp.res rfl rfl (Res.convB (k := (ls.getD i []).length) rfl rfl underlying3 underlying5) ?_)
    refine WL.step rfl (Stp.lit (vals := [(0, byte (UInt8.ofNat (i + 1))), (1, byte (UInt8.ofNat ((ls.getD i []).length / 2 ^ 8))), (2, byte (UInt8.ofNat (ls.getD i []).length))]) (cs := bs [(UInt8.ofNat (i + 1)), (UInt8.ofNat ((ls.getD i []).length / 2 ^ 8)), (UInt8.ofNat (ls.getD i []).length)]) (e := 5) rfl rfl (fun _ => by kernel_rfl) rfl rfl hS ?_)
    intro b33 w hb33 hS hkp hnw
    have hF := hS.freezeG (i := 0) rfl hb33
    obtain ⟨M5, hG5, hh, hS⟩ : ∃ M5, Grow w0.heap.size M4 M5 ∧ Bs M5 (.slice (some ⟨b33, 0, none⟩) 3 3) (Tick.hdr i (ls.getD i [])) ∧ St w0 w M5 (g ++ []) := ⟨_, hF.2, Bs.of' (PH.add_self _ _ _) rfl (by decide), hF.1⟩
    refine WL.step rfl (Stp.appendB (l := Tick.head ls i) (r := Tick.hdr i (ls.getD i [])) rfl rfl rfl rfl et30 (Src.ofBs underlying30 hS hh) hS hown (by simp only [Tick.hdr, List.length_cons, List.length_nil]; omega) rfl rfl ?_)
    intro v1 w g1 hS hown
    refine WL.step rfl (Stp.res rfl rfl (Res.assign rfl rfl) ?_)
    refine WL.nil (Thn_n ?_)
    have h7 := hG5.1 _ _ h7
    refine CW.region ?_
    refine WL.step rfl (Stp.res rfl rfl (Res.move rfl rfl) ?_)
    refine WL.step rfl (Stp.res rfl rfl (Res.fieldA rfl rfl underlying113 rfl (show SZ Tryz.prog _ 1 from sz30) (by decide)) ?_)
    refine WL.step rfl (Stp.res rfl rfl (Res.load1 (v := .slice ya (ls.getD i []).length yc) rfl rfl underlying30 rfl (hS.cell (PH.cell_of h7 rfl))) ?_)
    refine WL.step rfl (Stp.appendB (l := Tick.head ls i ++ Tick.hdr i (ls.getD i [])) (r := ls.getD i []) rfl rfl rfl rfl et30 (Src.ofBs underlying30 hS (e3.mono ((hGJ.trans hG4).trans hG5).1)) hS hown (by simp only [Tick.hdr, List.length_cons, List.length_nil, List.length_append]; omega) rfl rfl ?_)
    intro v2 w g2 hS hown
    rw [← Tick.head_succ hlt] at hown
    refine WL.step rfl (Stp.res rfl rfl (Res.assign rfl rfl) ?_)
    refine WL.nil (Blk_n (Thn_n ?_))
    refine CW.region ?_
    refine WL.step rfl (Stp.res rfl rfl (Res.add rfl rfl rfl (by omega)) ?_)
    refine WL.step rfl (Stp.res rfl rfl (Res.move rfl rfl) ?_)
    refine WL.nil (Thn_n ?_)
    exact ⟨(i + 1, M5, v2, g2), ⟨rfl, rfl, rfl, rfl, trivial⟩, ⟨by dsimp only; omega, (hGJ.trans hG4).trans hG5, hS, hown⟩, by dsimp only; omega⟩
  · obtain rfl : i = ls.length := by omega
    refine CW.exit (Thn_x (Thn_x (Blk_x (Thn_n ?_))))
    refine CW.seq ?_
    refine CW.region ?_
    refine WL.step rfl (Stp.res rfl rfl (Res.move rfl rfl) ?_)
    refine WL.step rfl (Stp.res rfl rfl (Res.assign rfl rfl) ?_)
    refine WL.step rfl (Stp.res rfl rfl (Res.assign rfl rfl) ?_)
    refine WL.nil (Thn_n ?_)
    refine CW.ret ?_
    rw [Tick.head_all] at hown
    obtain ⟨M9, hS, hle9, hfr9, hfin⟩ := hown.give hS
    have hGA := hGJ.trans ⟨hle9, hfr9⟩
    exact fq_tmp2 rfl rfl rfl ⟨M9, hS, hGA.1, hGA.2, _, rfl, hfin⟩
end Go.Proofs.YtcmgimicdcchlaaGreatDoor
set_option linter.unusedVariables false
set_option maxRecDepth 20000
namespace Go.Proofs.YtcmgimicdcchlaaGreatDoor
open Go.Proofs.Tryz
open Go Go.E
theorem value_ok (vb vo vc : Nat) (xs : List Value) (ls : List (List UInt8)) (w0 : World) (M : PH) (hM : On M w0) (hv : ∀ j x, xs[j]? = some x → M.cell vb (vo + j) = some x) (hbl : Bl M xs (fun j => ls.getD j []) ls.length) (h0 : 0 < ls.length) (hn : ls.length ≤ 255) (hsz : (Tick.enc 0 ls).length ≤ 4096) : Ok Tryz.prog 76 #[.slice (some ⟨vb, vo, none⟩) ls.length vc] w0 M (fun M' r => Bs M' r (Tick.enc 0 ls)) := by
  have hS := hM.st
  refine enterB (l := [.slice (some ⟨vb, vo, none⟩) ls.length vc]) 29 func76 rfl ntmps76 rfl ?_
  refine CW.seq ?_
  refine CW.region ?_
  refine WL.step rfl (Stp.res rfl rfl (Res.assign rfl rfl) ?_)
  refine WL.nil (Thn_n ?_)
  refine CW.seq ?_
  refine CW.region ?_
  refine WL.step rfl (Stp.res rfl rfl (Res.assign rfl rfl) ?_)
  refine WL.nil (Thn_n ?_)
  refine CW.seq ?_
  refine CW.seq ?_
  refine CW.region ?_
  refine WL.step rfl (Stp.res rfl rfl (Res.move rfl rfl) ?_)
  refine WL.step rfl (Stp.res rfl rfl (Res.len rfl rfl rfl rfl underlying94) ?_)
  refine WL.step rfl (Stp.res rfl rfl (Res.move rfl rfl) ?_)
  refine WL.nil (Thn_n ?_)
  refine CW.block ?_
  refine CW.loop (σ := Nat × PH × Value × Owned × List Value) (fun s => [(3, s.2.2.1), (8, .slice (some ⟨vb, vo, none⟩) ls.length vc), (9, .int .i64 (ls.length : Int)), (10, .int .i64 (s.1 : Int))])
    (fun s w' => s.1 ≤ ls.length ∧ Grow w0.heap.size M s.2.1 ∧ St w0 w' s.2.1 (s.2.2.2.1 ++ []) ∧ Own w0.heap.size s.2.2.2.1 s.2.2.1 s.1 2 s.2.2.2.2 113 ∧ Fx s.2.1 s.2.2.2.2 ls s.1) (fun s => ls.length - s.1) (0, M, _, [], []) ⟨rfl, rfl, rfl, rfl, trivial⟩ ⟨by dsimp only; omega, Grow.refl _ _, hS, Own.nil _ _ _, fun j hj => by dsimp only at hj; omega⟩ ?_
  rintro ⟨i, MJ, vj, g, ys⟩ w1 ⟨hi, hGJ, hS, hown, hfx⟩
  dsimp only at hi hGJ hS hown hfx ⊢
  refine CW.seq ?_
  refine CW.region ?_
  refine WL.step rfl (Stp.res rfl rfl (Res.lss rfl rfl rfl) ?_)
  refine WL.nil (Thn_n ?_)
  refine CW.seq ?_
  refine CW.ite rfl (fun h => ?_) (fun h => ?_)
  · have hlt : i < ls.length := by omega
    obtain ⟨y, hy, hyb⟩ := hbl.2 i hlt
    obtain ⟨ya, yc, rfl, y1, y2, y3, y4⟩ := id hyb
    refine CW.skip (Thn_n ?_)
    refine CW.seq ?_
    refine CW.block ?_
    refine CW.seq ?_
    refine CW.region ?_
    refine WL.step rfl (Stp.res rfl rfl (Res.move rfl rfl) ?_)
    refine WL.step rfl (Stp.res rfl rfl (Res.idxS1 (k := i) rfl rfl rfl underlying94 sz30 (Int.toNat_natCast _) (by omega)) ?_)
    refine WL.step rfl (Stp.res rfl rfl (Res.load1 (v := .slice ya (ls.getD i []).length yc) rfl rfl underlying30 rfl (hS.cell (PH.cell_mono hGJ.1 (hv i _ hy)))) ?_)
    refine WL.step rfl (Stp.res rfl rfl (Res.assign rfl rfl) ?_)
    refine WL.step rfl (Stp.res rfl rfl (Res.assign rfl rfl) ?_)
    refine WL.nil (Thn_n ?_)
    refine CW.region ?_
    refine WL.step rfl (Stp.res rfl rfl (Res.move rfl rfl) ?_)
    refine WL.step rfl (Stp.res rfl rfl (Res.move rfl rfl) ?_)
    refine WL.step rfl (Stp.res rfl rfl (Res.cast (Res.add rfl rfl rfl (by omega)) (v' := .int .i64 ((i + 1 : Nat) : Int)) (by congr 1)) ?_)
    refine WL.step rfl (Stp.res rfl rfl (Res.move rfl rfl) ?_)
    refine WL.step rfl (Stp.res rfl rfl (Res.build (vals := [(0, .int .i64 ((i + 1 : Nat) : Int)), (1, .slice ya (ls.getD i []).length yc)]) (cs := #[.int .i64 ((i + 1 : Nat) : Int), .slice ya (ls.getD i []).length yc]) rfl rfl (fun _ => by kernel_rfl)) ?_)
    refine WL.step rfl (Stp.lit (vals := [(0, .agg #[.int .i64 ((i + 1 : Nat) : Int), .slice ya (ls.getD i []).length yc])]) (cs := #[.int .i64 ((i + 1 : Nat) : Int), .slice ya (ls.getD i []).length yc]) (e := 113) rfl rfl (fun _ => by kernel_rfl) rfl rfl hS ?_)
    intro b20 w hb20 hS hkp hnw
    have hF := hS.freezeG (i := 0) rfl hb20
    obtain ⟨M5, hG5, h5, hS⟩ : ∃ M5, Grow w0.heap.size MJ M5 ∧ M5 b20 = some (.cells #[.int .i64 ((i + 1 : Nat) : Int), .slice ya (ls.getD i []).length yc] 113 (0, 0)) ∧ St w0 w M5 (g ++ []) := ⟨_, hF.2, PH.add_self _ _ _, hF.1⟩
    refine WL.step rfl (Stp.append (sz := 2) (m := 1) (k := i) (xs := ys) rfl rfl rfl rfl et114 (by decide) rfl (Src.blk underlying114 hS h5 rfl one2) hS hown (by omega) (by omega) rfl rfl ?_)
    intro v2 w g2 hS hown2
    refine WL.step rfl (Stp.res rfl rfl (Res.assign rfl rfl) ?_)
    refine WL.nil (Blk_n (Thn_n ?_))
    refine CW.region ?_
    refine WL.step rfl (Stp.res rfl rfl (Res.add rfl rfl rfl (by omega)) ?_)
    refine WL.step rfl (Stp.res rfl rfl (Res.move rfl rfl) ?_)
    refine WL.nil (Thn_n ?_)
    exact ⟨(i + 1, M5, v2, g2, _), ⟨rfl, rfl, rfl, rfl, trivial⟩, ⟨by dsimp only; omega, hGJ.trans hG5, hS, hown2, (hfx.mono hG5.1).snoc hown.1 (hyb.mono (hGJ.trans hG5).1)⟩, by dsimp only; omega⟩
  · obtain rfl : i = ls.length := by omega
    obtain ⟨M6, hS, hG6, hft⟩ := Own.ft hown h0 hfx hS
    refine CW.exit (Thn_x (Thn_x (Blk_x (Thn_n ?_))))
    refine CW.seq ?_
    refine CW.region ?_
    refine WL.step rfl (Stp.res rfl rfl (Res.move rfl rfl) ?_)
    refine WL.step rfl (Stp.callG (args := [_]) rfl rfl rfl cal115 rfl rfl hS (put_ok _ ls _ _ hS.on hft hn hsz) ?_)
    rintro _ w M7 hS hG7 ⟨s, rfl, hs⟩
    refine WL.step rfl (Stp.res rfl rfl (Res.move rfl rfl) ?_)
    refine WL.step rfl (Stp.res rfl rfl (Res.extract (l := [_, _]) rfl rfl rfl) ?_)
    refine WL.step rfl (Stp.res rfl rfl (Res.extract (l := [_, _]) rfl rfl rfl) ?_)
    refine WL.step rfl (Stp.res rfl rfl (Res.assign rfl rfl) ?_)
    refine WL.step rfl (Stp.res rfl rfl (Res.assign rfl rfl) ?_)
    refine WL.nil (Thn_n ?_)
    refine CW.seq ?_
    refine CW.region ?_
    refine WL.step rfl (Stp.res rfl rfl (Res.move rfl rfl) ?_)
    refine WL.step rfl (Stp.res rfl rfl (Res.assign rfl rfl) ?_)
    refine WL.nil (Thn_n ?_)
    refine CW.ret ?_
    have hGA := (hGJ.trans hG6).trans hG7
    exact fq_tmp rfl rfl ⟨M7, hS, hGA.1, hGA.2, hs⟩
theorem cut_ok (v : Value) (p rest : List UInt8) (z : Int) (w0 : World) (M : PH) (hM : On M w0) (hv : Bs M v ([UInt8.ofNat (p.length / 2 ^ 8), UInt8.ofNat p.length] ++ (p ++ rest))) (hp : p.length < 65536) (hr : rest.length ≤ 1000000) : Ok Tryz.prog 150 #[v, .int .i64 z] w0 M (fun M' r => ∃ p' r', r = .tuple #[p', r', .nilIface] ∧ Bs M' p' p ∧ Bs M' r' rest) := by
  have hS := hM.st
  have hv0 := hv
  have hll : ([UInt8.ofNat (p.length / 2 ^ 8), UInt8.ofNat p.length] ++ (p ++ rest)).length = p.length + rest.length + 2 := by simp only [List.length_append, List.length_cons, List.length_nil]; omega
  obtain ⟨vb, vo, vc, rfl, vc1, vc2, vcell⟩ := hv.at (by omega)
  have hd2 := hv0.drop (k := 2) (by omega)
  change Bs M _ (p ++ rest) at hd2
  refine enterB (l := [.slice (some ⟨vb, vo, none⟩) ([UInt8.ofNat (p.length / 2 ^ 8), UInt8.ofNat p.length] ++ (p ++ rest)).length vc, .int .i64 z]) 43 func150 rfl ntmps150 rfl ?_
  refine CW.seq ?_
  refine CW.region ?_
  refine WL.step rfl (Stp.res rfl rfl (Res.assign rfl rfl) ?_)
  refine WL.step rfl (Stp.res rfl rfl (Res.assign rfl rfl) ?_)
  refine WL.step rfl (Stp.res rfl rfl (Res.assign rfl rfl) ?_)
  refine WL.nil (Thn_n ?_)
  refine CW.seq ?_
  refine CW.seq ?_
  refine CW.region ?_
  refine WL.step rfl (Stp.res rfl rfl (Res.move rfl rfl) ?_)
  refine WL.step rfl (Stp.res rfl rfl (Res.len rfl rfl rfl rfl underlying30) ?_)
  refine WL.step rfl (Stp.res rfl rfl (Res.lss rfl rfl rfl) ?_)
  refine WL.nil (Thn_n ?_)
  refine CW.iteF rfl (by omega) ?_
  refine CW.skip (Thn_n ?_)
  refine CW.seq ?_
  have hS := hS.drew
  refine CW.still mixed (by kernel_rfl) ?_
  refine SL.step rfl rfl rfl (Res.move rfl rfl) ?_
  refine SL.step rfl rfl rfl (Res.idxS1 (k := 0) rfl rfl rfl underlying30 sz5 rfl (by omega)) ?_
  refine SL.step rfl rfl rfl (Res.load1 (v := byte (UInt8.ofNat (p.length / 2 ^ 8))) rfl rfl underlying5 rfl (hS.cell (vcell 0 (by omega)))) ?_
  refine SL.step rfl rfl rfl (Res.convUp rfl rfl underlying5 underlying3) ?_
  refine SL.step rfl rfl rfl (Res.shlI (a := (UInt8.ofNat (p.length / 2 ^ 8)).toNat) (s := 8) rfl rfl rfl (by decide) (by have := (UInt8.ofNat (p.length / 2 ^ 8)).toNat_lt; omega)) ?_
  refine SL.step rfl rfl rfl (Res.move rfl rfl) ?_
  refine SL.step rfl rfl rfl (Res.idxS1 (k := 1) rfl rfl rfl underlying30 sz5 rfl (by omega)) ?_
  refine SL.step rfl rfl rfl (Res.load1 (v := byte (UInt8.ofNat p.length)) rfl rfl underlying5 rfl (hS.cell (vcell 1 (by omega)))) ?_
  refine SL.step rfl rfl rfl (Res.convUp rfl rfl underlying5 underlying3) ?_
  refine SL.step rfl rfl rfl (Res.cast (Res.orI (a := (UInt8.ofNat (p.length / 2 ^ 8)).toNat * 2 ^ 8) (b := (UInt8.ofNat p.length).toNat) rfl rfl rfl ⟨by have := (UInt8.ofNat (p.length / 2 ^ 8)).toNat_lt; omega, by have := (UInt8.ofNat p.length).toNat_lt; omega⟩) (v' := .int .i64 (p.length : Int)) (by rw [Tick.len_or hp])) ?_
  refine SL.step rfl rfl rfl (Res.assign rfl rfl) ?_
  refine SL.nil (Thn_n ?_)
  refine CW.seq ?_
  refine CW.seq ?_
  refine CW.region ?_
  refine WL.step rfl (Stp.res rfl rfl (Res.move rfl rfl) ?_)
  refine WL.step rfl (Stp.res rfl rfl (Res.sliceLo (l := 2) rfl rfl rfl underlying30 sz5 (by omega)) ?_)
  refine WL.step rfl (Stp.res rfl rfl (Res.assign rfl rfl) ?_)
  refine WL.nil (Thn_n ?_)
  refine CW.seq ?_
  refine CW.region ?_
  refine WL.step rfl (Stp.res rfl rfl (Res.move rfl rfl) ?_)
  refine WL.step rfl (Stp.res rfl rfl (Res.len rfl rfl rfl rfl underlying30) ?_)
  refine WL.step rfl (Stp.res rfl rfl (Res.move rfl rfl) ?_)
  refine WL.step rfl (Stp.res rfl rfl (Res.lss rfl rfl rfl) ?_)
  refine WL.nil (Thn_n ?_)
  refine CW.iteF rfl (by omega) ?_
  refine CW.skip (Thn_n ?_)
  refine CW.seq ?_
  have hS := hS.drew
  have hK0 : True := trivial
  refine CW.held (fun _ => True) mixed ?_
  refine AL.take 1 rfl (by kernel_rfl) (by kernel_rfl) (by kernel_rfl) rfl rfl rfl hK0 (fun w hK => Res.move rfl rfl) ?_
  refine AL.take 2 rfl (by kernel_rfl) (by kernel_rfl) (by kernel_rfl) rfl rfl rfl hK0 (fun w hK => Res.move rfl rfl) ?_
  refine AL.take 3 rfl (by kernel_rfl) (by kernel_rfl) (by kernel_rfl) rfl rfl rfl hK0 (fun w hK => Res.sliceHi (h := p.length) rfl rfl rfl underlying30 sz5 (by omega)) ?_
  refine AL.take 5 rfl (by kernel_rfl) (by kernel_rfl) (by kernel_rfl) rfl rfl rfl hK0 (fun w hK => Res.move rfl rfl) ?_
  refine AL.take 6 rfl (by kernel_rfl) (by kernel_rfl) (by kernel_rfl) rfl rfl rfl hK0 (fun w hK => Res.move rfl rfl) ?_
  refine AL.take 7 rfl (by kernel_rfl) (by kernel_rfl) (by kernel_rfl) rfl rfl rfl hK0 (fun w hK => Res.sliceLo (l := p.length) rfl rfl rfl underlying30 sz5 (by omega)) ?_
  refine AL.one 0 rfl (by kernel_rfl) rfl (Stp.lit (vals := []) (cs := bs []) (e := 5) rfl rfl (fun _ => by kernel_rfl) rfl rfl hS ?_)
  intro b35 w hb35 hS hkp hnw
  have hK0 : True := trivial
  refine ⟨hK0, ?_⟩
  refine AL.one 4 rfl (by kernel_rfl) rfl (Stp.appendB (l := []) (r := p) rfl rfl rfl rfl et30 (by have h := Src.ofBs (P := Tryz.prog) (u := 30) underlying30 hS ((hd2.take (h := p.length) (by simp))); rw [List.take_left] at h; exact h) hS (OwnB.of hb35 (Nat.le_refl 0) (by omega) [] rfl rfl) (by simp; omega) rfl rfl ?_)
  intro v1 w g1 hS hown
  obtain ⟨M2, hS, hle2, hfr2, hpv⟩ := hown.give hS
  have hK0 : True := trivial
  refine ⟨hK0, ?_⟩
  refine AL.take 8 rfl (by kernel_rfl) (by kernel_rfl) (by kernel_rfl) rfl rfl rfl hK0 (fun w hK => Res.assign rfl rfl) ?_
  refine AL.take 9 rfl (by kernel_rfl) (by kernel_rfl) (by kernel_rfl) rfl rfl rfl hK0 (fun w hK => Res.assign rfl rfl) ?_
  refine AL.take 10 rfl (by kernel_rfl) (by kernel_rfl) (by kernel_rfl) rfl rfl rfl hK0 (fun w hK => Res.assign rfl rfl) ?_
  refine AL.done (by kernel_rfl) (Thn_n ?_)
  refine CW.ret ?_
  refine fq_tmp3 rfl rfl rfl rfl ⟨M2, hS, hle2, hfr2, _, _, rfl, hpv, ?_⟩
  have h := (hd2.drop (k := p.length) (by simp)).mono hle2
  rw [List.drop_left] at h
  exact h
end Go.Proofs.YtcmgimicdcchlaaGreatDoor
set_option linter.unusedVariables false
set_option maxRecDepth 20000
namespace Go.Proofs.YtcmgimicdcchlaaGreatDoor
open Go.Proofs.Tryz
open Go Go.E
theorem wread_ok (v : Value) (ls : List (List UInt8)) (w0 : World) (M : PH) (hM : On M w0) (hv : Bs M v (Tick.enc 0 ls)) (h0 : 0 < ls.length) (hn : ls.length ≤ 255) (hsz : (Tick.enc 0 ls).length ≤ 4096) : Ok Tryz.prog 118 #[v] w0 M (fun M' r => ∃ s, r = .tuple #[s, .int .i64 0] ∧ Ft M' s ls) := by
  have hS := hM.st
  have hv0 := hv
  obtain ⟨va, vc, rfl, v1, v2, v3, v4⟩ := hv
  refine enterB (l := [.slice va (Tick.enc 0 ls).length vc]) 48 func118 rfl ntmps118 rfl ?_
  refine CW.seq ?_
  refine CW.region ?_
  refine WL.step rfl (Stp.res rfl rfl (Res.assign rfl rfl) ?_)
  refine WL.step rfl (Stp.res rfl rfl (Res.assign rfl rfl) ?_)
  refine WL.nil (Thn_n ?_)
  refine CW.seq ?_
  refine CW.seq ?_
  refine CW.region ?_
  refine WL.step rfl (Stp.res rfl rfl (Res.move rfl rfl) ?_)
  refine WL.step rfl (Stp.res rfl rfl (Res.len rfl rfl rfl rfl underlying30) ?_)
  refine WL.step rfl (Stp.res rfl rfl (Res.gtr rfl rfl rfl) ?_)
  refine WL.nil (Thn_n ?_)
  refine CW.iteF rfl (by omega) ?_
  refine CW.skip (Thn_n ?_)
  refine CW.seq ?_
  refine CW.region ?_
  refine WL.step rfl (Stp.res rfl rfl (Res.assign rfl rfl) ?_)
  refine WL.nil (Thn_n ?_)
  refine CW.seq ?_
  refine CW.region ?_
  refine WL.step rfl (Stp.res rfl rfl (Res.assign rfl rfl) ?_)
  refine WL.nil (Thn_n ?_)
  refine CW.seq ?_
  refine CW.block ?_
  refine CW.loop (σ := Nat × PH × Value × Value × Owned × List Value) (fun s => [(0, s.2.2.1), (4, s.2.2.2.1), (5, .int .i64 (s.1 : Int))])
    (fun s w' => s.1 ≤ ls.length ∧ Grow w0.heap.size M s.2.1 ∧ St w0 w' s.2.1 (s.2.2.2.2.1 ++ []) ∧ Bs s.2.1 s.2.2.1 (Tick.enc s.1 (ls.drop s.1)) ∧ Own w0.heap.size s.2.2.2.2.1 s.2.2.2.1 s.1 2 s.2.2.2.2.2 113 ∧ Fx s.2.1 s.2.2.2.2.2 ls s.1) (fun s => ls.length - s.1) (0, M, _, _, [], []) ⟨rfl, rfl, rfl, trivial⟩ ⟨by dsimp only; omega, Grow.refl _ _, hS, hv0, Own.nil _ _ _, fun j hj => by dsimp only at hj; omega⟩ ?_
  rintro ⟨i, MJ, bv, lv, g, ys⟩ w1 ⟨hi, hGJ, hS, hbv, hown, hfx⟩
  dsimp only at hi hGJ hS hbv hown hfx ⊢
  obtain ⟨ba, bc, rfl, bz1, bz2, bz3, bz4⟩ := id hbv
  obtain ⟨la, lc, rfl⟩ := Own.len hown
  refine CW.seq ?_
  refine CW.seq ?_
  refine CW.region ?_
  refine WL.step rfl (Stp.res rfl rfl (Res.move rfl rfl) ?_)
  refine WL.step rfl (Stp.res rfl rfl (Res.len rfl rfl rfl rfl underlying30) ?_)
  refine WL.step rfl (Stp.res rfl rfl (Res.gtr rfl rfl rfl) ?_)
  refine WL.nil (Thn_n ?_)
  refine CW.ite rfl (fun h2 => ?_) (fun h2 => ?_)
  · have hlt : i < ls.length := by
      rcases Nat.lt_or_ge i ls.length with h | h
      · exact h
      · obtain rfl : i = ls.length := by omega
        rw [Tick.enc_end] at h2
        exact absurd h2 (by simp)
    have hgl := Tick.getD_le (ls := ls) (j := i) hlt
    have hed := Tick.enc_drop hlt
    obtain ⟨bb, bo, bcp, hbe, hb1, hb2, bcell⟩ := hbv.at (by omega)
    simp only [Value.slice.injEq] at hbe
    obtain ⟨rfl, _, rfl⟩ := hbe
    have hd1 := hbv.drop (k := 1) (by omega)
    have hcut : Bs MJ (.slice (if bc = 1 then some ⟨bb, bo, none⟩ else (some (⟨bb, bo, none⟩ : Addr)).map (·.add 1)) ((Tick.enc i (ls.drop i)).length - 1) (bc - 1)) ([UInt8.ofNat ((ls.getD i []).length / 2 ^ 8), UInt8.ofNat (ls.getD i []).length] ++ (ls.getD i [] ++ Tick.enc (i + 1) (ls.drop (i + 1)))) := by
      have h := hd1
      rw [show (Tick.enc i (ls.drop i)).drop 1 = [UInt8.ofNat ((ls.getD i []).length / 2 ^ 8), UInt8.ofNat (ls.getD i []).length] ++ (ls.getD i [] ++ Tick.enc (i + 1) (ls.drop (i + 1))) by rw [hed]; rfl] at h
      exact h
    have hfst : (Tick.enc i (ls.drop i)).getD 0 0 = UInt8.ofNat (i + 1) := by rw [hed]; rfl
    refine CW.skip (Thn_n ?_)
    refine CW.block ?_
    refine CW.seq ?_
    refine CW.region ?_
    refine WL.step rfl (Stp.res rfl rfl (Res.move rfl rfl) ?_)
    refine WL.step rfl (Stp.res rfl rfl (Res.idxS1 (k := 0) rfl rfl rfl underlying30 sz5 rfl (by omega)) ?_)
    refine WL.step rfl (Stp.res rfl rfl (Res.load1 (v := byte (UInt8.ofNat (i + 1))) rfl rfl underlying5 rfl (by rw [← hfst]; exact hS.cell (bcell 0 (by omega)))) ?_)
    refine WL.step rfl (Stp.res rfl rfl (Res.cast (Res.convUp rfl rfl underlying5 underlying3) (v' := .int .i64 ((i + 1 : Nat) : Int)) (by rw [UInt8.toNat_ofNat', Nat.mod_eq_of_lt (by omega)])) ?_)
    refine WL.step rfl (Stp.res rfl rfl (Res.build (vals := [(0, .int .i64 ((i + 1 : Nat) : Int))]) (cs := #[.int .i64 ((i + 1 : Nat) : Int), .slice none 0 0]) rfl rfl (fun _ => by kernel_rfl)) ?_)
    refine WL.step rfl (Stp.alloc (cs := #[.int .i64 0, .slice none 0 0]) rfl zFld rfl rfl rfl hS ?_)
    intro b6 w hb6 hS hkp hnw
    refine WL.step rfl (Stp.storeAll 0 rfl rfl rfl sz113 one2 rfl hS rfl rfl ?_)
    intro w hS hpt
    change St w0 w MJ ((b6, .cells #[.int .i64 ((i + 1 : Nat) : Int), .slice none 0 0] 113 (0, 0)) :: (g ++ [])) at hS
    refine WL.nil (Thn_n ?_)
    refine CW.seq ?_
    refine CW.seq ?_
    refine CW.region ?_
    refine WL.step rfl (Stp.res rfl rfl (Res.fieldA rfl rfl underlying113 rfl (show SZ Tryz.prog _ 1 from sz3) (by decide)) ?_)
    refine WL.step rfl (Stp.res rfl rfl (Res.load1 (v := .int .i64 ((i + 1 : Nat) : Int)) rfl rfl underlying3 rfl (hS.ocell (i := 0) rfl rfl)) ?_)
    refine WL.step rfl (Stp.res rfl rfl (Res.move rfl rfl) ?_)
    refine WL.step rfl (Stp.res rfl rfl (Res.leq rfl rfl rfl) ?_)
    refine WL.nil (Thn_n ?_)
    refine CW.iteF rfl (by omega) ?_
    refine CW.skip (Thn_n ?_)
    refine CW.seq ?_
    refine CW.region ?_
    refine WL.step rfl (Stp.res rfl rfl (Res.move rfl rfl) ?_)
    refine WL.step rfl (Stp.res rfl rfl (Res.sliceLo (l := 1) rfl rfl rfl underlying30 sz5 (by omega)) ?_)
    refine WL.step rfl (Stp.res rfl rfl (Res.move rfl rfl) ?_)
    refine WL.step rfl (Stp.res rfl rfl (Res.len rfl rfl rfl rfl underlying114) ?_)
    refine WL.step rfl (Stp.callG (args := [_, _]) rfl rfl rfl cal150 rfl rfl hS (cut_ok _ (ls.getD i []) (Tick.enc (i + 1) (ls.drop (i + 1))) _ _ _ hS.on hcut (by omega) (by have := Tick.drop_le ls (i + 1); omega)) ?_)
    rintro _ w M3 hS hG3 ⟨pv, rv, rfl, hpv, hrv⟩
    obtain ⟨ya, yc, rfl, y1, y2, y3, y4⟩ := id hpv
    refine WL.step rfl (Stp.res rfl rfl (Res.move rfl rfl) ?_)
    refine WL.step rfl (Stp.res rfl rfl (Res.extract (l := [_, _, _]) rfl rfl rfl) ?_)
    refine WL.step rfl (Stp.res rfl rfl (Res.extract (l := [_, _, _]) rfl rfl rfl) ?_)
    refine WL.step rfl (Stp.res rfl rfl (Res.extract (l := [_, _, _]) rfl rfl rfl) ?_)
    refine WL.step rfl (Stp.res rfl rfl (Res.assign rfl rfl) ?_)
    refine WL.step rfl (Stp.res rfl rfl (Res.assign rfl rfl) ?_)
    refine WL.step rfl (Stp.res rfl rfl (Res.assign rfl rfl) ?_)
    refine WL.nil (Thn_n ?_)
    refine CW.seq ?_
    refine CW.seq ?_
    refine CW.region ?_
    refine WL.step rfl (Stp.res rfl rfl (Res.move rfl rfl) ?_)
    refine WL.step rfl (Stp.res rfl rfl (Res.neqNN rfl rfl underlying86) ?_)
    refine WL.nil (Thn_n ?_)
    refine CW.condF rfl ?_
    refine CW.skip (Thn_n ?_)
    refine CW.seq ?_
    refine CW.region ?_
    refine WL.step rfl (Stp.res rfl rfl (Res.move rfl rfl) ?_)
    refine WL.step rfl (Stp.res rfl rfl (Res.move rfl rfl) ?_)
    refine WL.step rfl (Stp.res rfl rfl (Res.fieldA rfl rfl underlying113 rfl (show SZ Tryz.prog _ 1 from sz3) (by decide)) ?_)
    refine WL.step rfl (Stp.res rfl rfl (Res.load1 (v := .int .i64 ((i + 1 : Nat) : Int)) rfl rfl underlying3 rfl (hS.ocell (i := 0) rfl rfl)) ?_)
    refine WL.step rfl (Stp.res rfl rfl (Res.fieldA rfl rfl underlying113 rfl (show SZ Tryz.prog _ 1 from sz30) (by decide)) ?_)
    refine WL.step rfl (Stp.store1 0 (v := .slice ya (ls.getD i []).length yc) rfl rfl rfl sz30 rfl rfl hS rfl (by show 1 < 2; decide) ?_)
    intro w hS hpt
    change St w0 w M3 ((b6, .cells #[.int .i64 ((i + 1 : Nat) : Int), .slice ya (ls.getD i []).length yc] 113 (0, 0)) :: (g ++ [])) at hS
    refine WL.step rfl (Stp.res rfl rfl (Res.assign rfl rfl) ?_)
    refine WL.step rfl (Stp.res rfl rfl (Res.assign rfl rfl) ?_)
    refine WL.nil (Thn_n ?_)
    refine CW.region ?_
    refine WL.step rfl (Stp.res rfl rfl (Res.move rfl rfl) ?_)
    refine WL.step rfl (Stp.res rfl rfl (Res.loadAll (cs := #[.int .i64 ((i + 1 : Nat) : Int), .slice ya (ls.getD i []).length yc]) rfl rfl underlying113 rfl (sz113) (hS.get (i := 0) rfl)) ?_)
    refine WL.step rfl (Stp.lit (vals := [(0, .agg #[.int .i64 ((i + 1 : Nat) : Int), .slice ya (ls.getD i []).length yc])]) (cs := #[.int .i64 ((i + 1 : Nat) : Int), .slice ya (ls.getD i []).length yc]) (e := 113) rfl rfl (fun _ => by kernel_rfl) rfl rfl hS ?_)
    intro b45 w hb45 hS hkp hnw
    have hF := hS.freezeG (i := 0) rfl hb45
    obtain ⟨M5, hG5, h5, hS⟩ : ∃ M5, Grow w0.heap.size M3 M5 ∧ M5 b45 = some (.cells #[.int .i64 ((i + 1 : Nat) : Int), .slice ya (ls.getD i []).length yc] 113 (0, 0)) ∧ St w0 w M5 ((b6, .cells #[.int .i64 ((i + 1 : Nat) : Int), .slice ya (ls.getD i []).length yc] 113 (0, 0)) :: (g ++ [])) := ⟨_, hF.2, PH.add_self _ _ _, hF.1⟩
    have hS := hS.drop (i := 0) rfl hb6
    change St w0 w M5 (g ++ []) at hS
    refine WL.step rfl (Stp.append (sz := 2) (m := 1) (k := i) (xs := ys) rfl rfl rfl rfl et114 (by decide) rfl (Src.blk underlying114 hS h5 rfl one2) hS hown (by omega) (by omega) rfl rfl ?_)
    intro v2 w g2 hS hown2
    refine WL.step rfl (Stp.res rfl rfl (Res.assign rfl rfl) ?_)
    refine WL.nil (Blk_n (Thn_n ?_))
    exact ⟨(i + 1, M5, rv, v2, g2, _), ⟨rfl, rfl, rfl, trivial⟩, ⟨by dsimp only; omega, (hGJ.trans hG3).trans hG5, hS, hrv.mono hG5.1, hown2, (hfx.mono (hG3.trans hG5).1).snoc hown.1 (hpv.mono hG5.1)⟩, by dsimp only; omega⟩
  · have hge : i = ls.length := by
      rcases Nat.lt_or_ge i ls.length with h | h
      · have hed := congrArg List.length (Tick.enc_drop h)
        simp [Tick.hdr] at hed
        omega
      · omega
    obtain ⟨M9, hS, hG9, hft⟩ : ∃ M9, St w0 w1 M9 [] ∧ Grow w0.heap.size MJ M9 ∧ Ft M9 (.slice la i lc) ls := by
      subst hge
      exact Own.ft hown h0 hfx hS
    refine CW.exit (Thn_x (Thn_x (Blk_x (Thn_n ?_))))
    refine CW.seq ?_
    refine CW.region ?_
    refine WL.step rfl (Stp.res rfl rfl (Res.move rfl rfl) ?_)
    refine WL.step rfl (Stp.res rfl rfl (Res.assign rfl rfl) ?_)
    refine WL.step rfl (Stp.res rfl rfl (Res.assign rfl rfl) ?_)
    refine WL.nil (Thn_n ?_)
    refine CW.ret ?_
    have hGA := hGJ.trans hG9
    exact fq_tmp2 rfl rfl rfl ⟨M9, hS, hGA.1, hGA.2, _, rfl, hft⟩
end Go.Proofs.YtcmgimicdcchlaaGreatDoor
set_option linter.unusedVariables false
set_option maxRecDepth 20000
namespace Go.Proofs.YtcmgimicdcchlaaGreatDoor
open Go.Proofs.Tryz
open Go Go.E
theorem fields_ok (v : Value) (ls : List (List UInt8)) (w0 : World) (M : PH) (hM : On M w0) (hv : Bs M v (Tick.enc 0 ls)) (h0 : 0 < ls.length) (hn : ls.length ≤ 255) (hsz : (Tick.enc 0 ls).length ≤ 4096) : Ok Tryz.prog 81 #[v, .int .i64 (ls.length : Int)] w0 M (fun M' r => ∃ fb fc xs, r = .tuple #[.slice (some ⟨fb, 0, none⟩) ls.length fc, .nilIface] ∧ ls.length ≤ fc ∧ fc ≤ 9223372036854775807 ∧ (∀ j x, xs[j]? = some x → M'.cell fb j = some x) ∧ Bl M' xs (fun j => ls.getD j []) ls.length) := by
  have hS := hM.st
  refine enterB (l := [v, .int .i64 (ls.length : Int)]) 47 func81 rfl ntmps81 rfl ?_
  refine CW.seq ?_
  refine CW.region ?_
  refine WL.step rfl (Stp.res rfl rfl (Res.assign rfl rfl) ?_)
  refine WL.step rfl (Stp.res rfl rfl (Res.assign rfl rfl) ?_)
  refine WL.nil (Thn_n ?_)
  refine CW.seq ?_
  refine CW.region ?_
  refine WL.step rfl (Stp.res rfl rfl (Res.move rfl rfl) ?_)
  refine WL.step rfl (Stp.callG (args := [_]) rfl rfl rfl cal118 rfl rfl hS (wread_ok _ ls _ _ hS.on hv h0 hn hsz) ?_)
  rintro _ w M1 hS hG1 ⟨s, rfl, hft⟩
  obtain ⟨fb, fc, rfl, f1, f2, f3⟩ := hft
  refine WL.step rfl (Stp.res rfl rfl (Res.move rfl rfl) ?_)
  refine WL.step rfl (Stp.res rfl rfl (Res.extract (l := [_, _]) rfl rfl rfl) ?_)
  refine WL.step rfl (Stp.res rfl rfl (Res.extract (l := [_, _]) rfl rfl rfl) ?_)
  refine WL.step rfl (Stp.res rfl rfl (Res.assign rfl rfl) ?_)
  refine WL.step rfl (Stp.res rfl rfl (Res.assign rfl rfl) ?_)
  refine WL.nil (Thn_n ?_)
  refine CW.seq ?_
  refine CW.seq ?_
  refine CW.region ?_
  refine WL.step rfl (Stp.res rfl rfl (Res.move rfl rfl) ?_)
  refine WL.step rfl (Stp.res rfl rfl (Res.toF (Res.neq rfl rfl rfl) (by decide)) ?_)
  refine WL.step rfl (Stp.res rfl rfl (Res.move rfl rfl) ?_)
  refine WL.stepG 2 false rfl rfl rfl rfl (Stp.res rfl rfl (Res.move rfl rfl) ?_)
  refine WL.stepG 2 false rfl rfl rfl rfl (Stp.res rfl rfl (Res.len rfl rfl rfl rfl underlying114) ?_)
  refine WL.stepG 2 false rfl rfl rfl rfl (Stp.res rfl rfl (Res.move rfl rfl) ?_)
  refine WL.stepG 2 false rfl rfl rfl rfl (Stp.res rfl rfl (Res.toF (Res.neq rfl rfl rfl) (by omega)) ?_)
  refine WL.step rfl (Stp.res rfl rfl (Res.pickF rfl rfl rfl) ?_)
  refine WL.nil (Thn_n ?_)
  refine CW.condF rfl ?_
  refine CW.skip (Thn_n ?_)
  refine CW.seq ?_
  refine CW.region ?_
  refine WL.step rfl (Stp.res rfl rfl (Res.assign rfl rfl) ?_)
  refine WL.nil (Thn_n ?_)
  refine CW.seq ?_
  refine CW.seq ?_
  refine CW.region ?_
  refine WL.step rfl (Stp.res rfl rfl (Res.move rfl rfl) ?_)
  refine WL.step rfl (Stp.res rfl rfl (Res.len rfl rfl rfl rfl underlying114) ?_)
  refine WL.step rfl (Stp.res rfl rfl (Res.move rfl rfl) ?_)
  refine WL.nil (Thn_n ?_)
  refine CW.block ?_
  refine CW.loop (σ := Nat × PH × Value × Owned × List Value) (fun s => [(8, s.2.2.1), (26, .slice (some ⟨fb, 0, none⟩) ls.length fc), (27, .int .i64 (ls.length : Int)), (28, .int .i64 (s.1 : Int))])
    (fun s w' => s.1 ≤ ls.length ∧ Grow w0.heap.size M1 s.2.1 ∧ St w0 w' s.2.1 (s.2.2.2.1 ++ []) ∧ Own w0.heap.size s.2.2.2.1 s.2.2.1 s.1 1 s.2.2.2.2 30 ∧ Bl s.2.1 s.2.2.2.2 (fun j => ls.getD j []) s.1) (fun s => ls.length - s.1) (0, M1, _, [], []) ⟨rfl, rfl, rfl, rfl, trivial⟩ ⟨by dsimp only; omega, Grow.refl _ _, hS, Own.nil _ _ _, Bl.nil _ _⟩ ?_
  rintro ⟨i, MJ, vj, g, ys⟩ w1 ⟨hi, hGJ, hS, hown, hbl⟩
  dsimp only at hi hGJ hS hown hbl ⊢
  refine CW.seq ?_
  refine CW.region ?_
  refine WL.step rfl (Stp.res rfl rfl (Res.lss rfl rfl rfl) ?_)
  refine WL.nil (Thn_n ?_)
  refine CW.seq ?_
  refine CW.ite rfl (fun h => ?_) (fun h => ?_)
  · have hlt : i < ls.length := by omega
    obtain ⟨ya, yl, yc, e1, e2, e3⟩ := f3 i hlt
    obtain ⟨rfl, hy1, hy2⟩ := e3.len
    have hgl := Tick.getD_le (ls := ls) (j := i) (by omega)
    refine CW.skip (Thn_n ?_)
    refine CW.seq ?_
    refine CW.block ?_
    refine CW.seq ?_
    refine CW.region ?_
    refine WL.step rfl (Stp.res rfl rfl (Res.move rfl rfl) ?_)
    refine WL.step rfl (Stp.res rfl rfl (Res.idxS 2 (k := i) rfl rfl rfl underlying114 sz113 (Int.toNat_natCast _) (by omega)) ?_)
    refine WL.step rfl (Stp.res rfl rfl (Res.loadN (i := 0 + i * 2) (r := [.int .i64 ((i + 1 : Nat) : Int), .slice ya (ls.getD i []).length yc]) rfl rfl underlying113 rfl sz113 rfl (hS.two (PH.cell_mono hGJ.1 e1) (PH.cell_mono hGJ.1 e2))) ?_)
    refine WL.step rfl (Stp.alloc (cs := #[.int .i64 0, .slice none 0 0]) rfl zFld rfl rfl rfl hS ?_)
    intro b10 w hb10 hS hkp hnw
    refine WL.step rfl (Stp.res rfl rfl (Res.assign rfl rfl) ?_)
    refine WL.step rfl (Stp.storeAll 0 rfl rfl rfl sz113 one2 rfl hS rfl rfl ?_)
    intro w hS hpt
    change St w0 w MJ ((b10, .cells #[.int .i64 ((i + 1 : Nat) : Int), .slice ya (ls.getD i []).length yc] 113 (0, 0)) :: (g ++ [])) at hS
    refine WL.nil (Thn_n ?_)
    refine CW.seq ?_
    refine CW.seq ?_
    refine CW.region ?_
    refine WL.step rfl (Stp.res rfl rfl (Res.fieldA rfl rfl underlying113 rfl (show SZ Tryz.prog _ 1 from sz3) (by decide)) ?_)
    refine WL.step rfl (Stp.res rfl rfl (Res.load1 (v := .int .i64 ((i + 1 : Nat) : Int)) rfl rfl underlying3 rfl (hS.ocell (i := 0) rfl rfl)) ?_)
    refine WL.step rfl (Stp.res rfl rfl (Res.move rfl rfl) ?_)
    refine WL.step rfl (Stp.res rfl rfl (Res.add rfl rfl rfl (by omega)) ?_)
    refine WL.step rfl (Stp.res rfl rfl (Res.toF (Res.neq rfl rfl rfl) (by omega)) ?_)
    refine WL.nil (Thn_n ?_)
    refine CW.condF rfl ?_
    refine CW.skip (Thn_n ?_)
    refine CW.region ?_
    refine WL.step rfl (Stp.res rfl rfl (Res.move rfl rfl) ?_)
    refine WL.step rfl (Stp.res rfl rfl (Res.fieldA rfl rfl underlying113 rfl (show SZ Tryz.prog _ 1 from sz30) (by decide)) ?_)
    refine WL.step rfl (Stp.res rfl rfl (Res.load1 (v := .slice ya (ls.getD i []).length yc) rfl rfl underlying30 rfl (hS.ocell (i := 0) rfl rfl)) ?_)
    refine WL.step rfl (Stp.lit (vals := [(0, .slice ya (ls.getD i []).length yc)]) (cs := #[.slice ya (ls.getD i []).length yc]) (e := 30) rfl rfl (fun _ => by kernel_rfl) rfl rfl hS ?_)
    intro b43 w hb43 hS hkp hnw
    have hF := hS.freezeG (i := 0) rfl hb43
    obtain ⟨M5, hG5, hlit, hS⟩ : ∃ M5, Grow w0.heap.size MJ M5 ∧ Vs M5 (.slice (some ⟨b43, 0, none⟩) 1 1) [.slice ya (ls.getD i []).length yc] ∧ St w0 w M5 ((b10, .cells #[.int .i64 ((i + 1 : Nat) : Int), .slice ya (ls.getD i []).length yc] 113 (0, 0)) :: (g ++ [])) := ⟨_, hF.2, Vs.of (PH.add_self _ _ _) rfl rfl (by decide), hF.1⟩
    have hS := hS.drop (i := 0) rfl hb10
    change St w0 w M5 (g ++ []) at hS
    refine WL.step rfl (Stp.append (sz := 1) (m := 1) (k := i) (xs := ys) rfl rfl rfl rfl et94 (by decide) rfl (Src.ofVs underlying94 hS hlit (by intro x hx; simp only [List.mem_singleton] at hx; subst hx; rfl)) hS hown (by omega) (by omega) rfl rfl ?_)
    intro v2 w g2 hS hown2
    refine WL.step rfl (Stp.res rfl rfl (Res.assign rfl rfl) ?_)
    refine WL.nil (Blk_n (Thn_n ?_))
    refine CW.region ?_
    refine WL.step rfl (Stp.res rfl rfl (Res.add rfl rfl rfl (by omega)) ?_)
    refine WL.step rfl (Stp.res rfl rfl (Res.move rfl rfl) ?_)
    refine WL.nil (Thn_n ?_)
    exact ⟨(i + 1, M5, v2, g2, _), ⟨rfl, rfl, rfl, rfl, trivial⟩, ⟨by dsimp only; omega, hGJ.trans hG5, hS, hown2, (hbl.mono hG5.1).snoc (e3.mono (hGJ.trans hG5).1)⟩, by dsimp only; omega⟩
  · obtain rfl : i = ls.length := by omega
    obtain ⟨ob, cs, oc, hob, rfl, rfl, hxl, hmm, hcp, hcs⟩ := Own.vs hown h0
    refine CW.exit (Thn_x (Thn_x (Blk_x (Thn_n ?_))))
    refine CW.seq ?_
    refine CW.region ?_
    refine WL.step rfl (Stp.res rfl rfl (Res.move rfl rfl) ?_)
    refine WL.step rfl (Stp.res rfl rfl (Res.assign rfl rfl) ?_)
    refine WL.step rfl (Stp.res rfl rfl (Res.assign rfl rfl) ?_)
    refine WL.nil (Thn_n ?_)
    refine CW.ret ?_
    have hF := hS.freezeG (i := 0) rfl hob
    have hGA := (hG1.trans hGJ).trans hF.2
    exact fq_tmp2 rfl rfl rfl ⟨_, hF.1, hGA.1, hGA.2, ob, oc, ys, rfl, hmm, hcp, fun j x hj => PH.cell_of (PH.add_self _ _ _) (hcs j x hj), hbl.mono hF.2.1⟩
theorem numbers_ok (vb vo n vc : Nat) (ns : List Nat) (q : Nat → Value) (w0 : World) (M : PH) (hM : On M w0) (hn : ns.length = n) (h0 : 0 < n ∧ n ≤ 1000) (hv : ∀ j, j < n → M.cell vb (vo + j) = some (q j) ∧ Bs M (q j) (Tick.be8 (ns.getD j 0))) (hns : ∀ j, ns.getD j 0 ≤ 2305843009213693952) : Ok Tryz.prog 82 #[.slice (some ⟨vb, vo, none⟩) n vc] w0 M (fun M' r => ∃ nb nc, r = .tuple #[.slice (some ⟨nb, 0, none⟩) n nc, .nilIface] ∧ ∀ j, j < n → M'.cell nb j = some (.int .i64 ((ns.getD j 0 : Nat) : Int))) := by
  have hS := hM.st
  refine enterB (l := [.slice (some ⟨vb, vo, none⟩) n vc]) 30 func82 rfl ntmps82 rfl ?_
  refine CW.seq ?_
  refine CW.region ?_
  refine WL.step rfl (Stp.res rfl rfl (Res.assign rfl rfl) ?_)
  refine WL.step rfl (Stp.res rfl rfl (Res.assign rfl rfl) ?_)
  refine WL.nil (Thn_n ?_)
  refine CW.seq ?_
  refine CW.region ?_
  refine WL.step rfl (Stp.res rfl rfl (Res.assign rfl rfl) ?_)
  refine WL.nil (Thn_n ?_)
  refine CW.seq ?_
  refine CW.seq ?_
  refine CW.region ?_
  refine WL.step rfl (Stp.res rfl rfl (Res.move rfl rfl) ?_)
  refine WL.step rfl (Stp.res rfl rfl (Res.len rfl rfl rfl rfl underlying94) ?_)
  refine WL.step rfl (Stp.res rfl rfl (Res.move rfl rfl) ?_)
  refine WL.nil (Thn_n ?_)
  refine CW.block ?_
  refine CW.loop (σ := Nat × PH × Value × Owned) (fun s => [(4, s.2.2.1), (9, .slice (some ⟨vb, vo, none⟩) n vc), (10, .int .i64 (n : Int)), (11, .int .i64 (s.1 : Int))])
    (fun s w' => s.1 ≤ n ∧ Grow w0.heap.size M s.2.1 ∧ St w0 w' s.2.1 (s.2.2.2 ++ []) ∧ Own w0.heap.size s.2.2.2 s.2.2.1 s.1 1 ((ns.take s.1).map fun z : Nat => Value.int .i64 (z : Int)) 3) (fun s => n - s.1) (0, M, _, []) ⟨rfl, rfl, rfl, rfl, trivial⟩ ⟨by dsimp only; omega, Grow.refl _ _, hS, Own.nil _ _ _⟩ ?_
  rintro ⟨i, MJ, vj, g⟩ w1 ⟨hi, hGJ, hS, hown⟩
  dsimp only at hi hGJ hS hown ⊢
  refine CW.seq ?_
  refine CW.region ?_
  refine WL.step rfl (Stp.res rfl rfl (Res.lss rfl rfl rfl) ?_)
  refine WL.nil (Thn_n ?_)
  refine CW.seq ?_
  refine CW.ite rfl (fun h => ?_) (fun h => ?_)
  · have hlt : i < n := by omega
    obtain ⟨hqc, hqb⟩ := hv i hlt
    refine CW.skip (Thn_n ?_)
    refine CW.seq ?_
    refine CW.block ?_
    refine CW.seq ?_
    refine CW.region ?_
    refine WL.step rfl (Stp.res rfl rfl (Res.idxS1 (k := i) rfl rfl rfl underlying94 sz30 (Int.toNat_natCast _) (by omega)) ?_)
    refine WL.step rfl (Stp.res rfl rfl (Res.load1 (v := q i) rfl rfl underlying30 rfl (hS.cell (PH.cell_mono hGJ.1 hqc))) ?_)
    refine WL.step rfl (Stp.res rfl rfl (Res.assign rfl rfl) ?_)
    refine WL.nil (Thn_n ?_)
    refine CW.seq ?_
    refine CW.region ?_
    refine WL.step rfl (Stp.res rfl rfl (Res.move rfl rfl) ?_)
    refine WL.step rfl (Stp.callG (args := [_]) rfl rfl rfl cal119 rfl rfl hS (readint_ok _ (ns.getD i 0) _ _ hS.on (hqb.mono hGJ.1) (hns i)) ?_)
    rintro _ w _ hS _ ⟨rfl, rfl⟩
    refine WL.step rfl (Stp.res rfl rfl (Res.move rfl rfl) ?_)
    refine WL.step rfl (Stp.res rfl rfl (Res.extract (l := [_, _]) rfl rfl rfl) ?_)
    refine WL.step rfl (Stp.res rfl rfl (Res.extract (l := [_, _]) rfl rfl rfl) ?_)
    refine WL.step rfl (Stp.res rfl rfl (Res.assign rfl rfl) ?_)
    refine WL.step rfl (Stp.res rfl rfl (Res.assign rfl rfl) ?_)
    refine WL.nil (Thn_n ?_)
    refine CW.seq ?_
    refine CW.seq ?_
    refine CW.region ?_
    refine WL.step rfl (Stp.res rfl rfl (Res.move rfl rfl) ?_)
    refine WL.step rfl (Stp.res rfl rfl (Res.toF (Res.neq rfl rfl rfl) (by decide)) ?_)
    refine WL.nil (Thn_n ?_)
    refine CW.condF rfl ?_
    refine CW.skip (Thn_n ?_)
    refine CW.region ?_
    refine WL.step rfl (Stp.res rfl rfl (Res.move rfl rfl) ?_)
    refine WL.step rfl (Stp.res rfl rfl (Res.move rfl rfl) ?_)
    refine WL.step rfl (Stp.lit (vals := [(0, .int .i64 ((ns.getD i 0 : Nat) : Int))]) (cs := #[.int .i64 ((ns.getD i 0 : Nat) : Int)]) (e := 3) rfl rfl (fun _ => by kernel_rfl) rfl rfl hS ?_)
    intro b26 w hb26 hS hkp hnw
    have hF := hS.freezeG (i := 0) rfl hb26
    obtain ⟨M5, hG5, hlit, hS⟩ : ∃ M5, Grow w0.heap.size MJ M5 ∧ Vs M5 (.slice (some ⟨b26, 0, none⟩) 1 1) [.int .i64 ((ns.getD i 0 : Nat) : Int)] ∧ St w0 w M5 (g ++ []) := ⟨_, hF.2, Vs.of (PH.add_self _ _ _) rfl rfl (by decide), hF.1⟩
    refine WL.step rfl (Stp.append (sz := 1) (m := 1) (k := i) (xs := (ns.take i).map fun z : Nat => Value.int .i64 (z : Int)) rfl rfl rfl rfl et117 (by decide) rfl (Src.ofVs underlying117 hS hlit (by intro x hx; simp only [List.mem_singleton] at hx; subst hx; rfl)) hS hown (by omega) (by omega) rfl rfl ?_)
    intro v2 w g2 hS hown2
    refine WL.step rfl (Stp.res rfl rfl (Res.assign rfl rfl) ?_)
    refine WL.nil (Blk_n (Thn_n ?_))
    refine CW.region ?_
    refine WL.step rfl (Stp.res rfl rfl (Res.add rfl rfl rfl (by omega)) ?_)
    refine WL.step rfl (Stp.res rfl rfl (Res.move rfl rfl) ?_)
    refine WL.nil (Thn_n ?_)
    exact ⟨(i + 1, M5, v2, g2), ⟨rfl, rfl, rfl, rfl, trivial⟩, ⟨by dsimp only; omega, hGJ.trans hG5, hS, by dsimp only; rw [List.take_add_one, List.map_append]; simp only [List.getD_eq_getElem?_getD, List.getElem?_eq_getElem (show i < ns.length by omega), Option.getD_some, Option.toList_some, List.map_cons, List.map_nil] at hown2 ⊢; exact hown2⟩, by dsimp only; omega⟩
  · obtain rfl : i = n := by omega
    obtain ⟨ob, cs, oc, hob, rfl, rfl, hxl, hmm, hcp, hcs⟩ := Own.vs hown h0.1
    refine CW.exit (Thn_x (Thn_x (Blk_x (Thn_n ?_))))
    refine CW.seq ?_
    refine CW.region ?_
    refine WL.step rfl (Stp.res rfl rfl (Res.move rfl rfl) ?_)
    refine WL.step rfl (Stp.res rfl rfl (Res.assign rfl rfl) ?_)
    refine WL.step rfl (Stp.res rfl rfl (Res.assign rfl rfl) ?_)
    refine WL.nil (Thn_n ?_)
    refine CW.ret ?_
    have hF := hS.freezeG (i := 0) rfl hob
    have hGA := hGJ.trans hF.2
    refine fq_tmp2 rfl rfl rfl ⟨_, hF.1, hGA.1, hGA.2, ob, oc, rfl, fun j hj => PH.cell_of (PH.add_self _ _ _) (hcs j _ ?_)⟩
    rw [List.getElem?_map, List.getElem?_take, if_pos hj, List.getD_eq_getElem?_getD, List.getElem?_eq_getElem (by omega)]
    rfl
end Go.Proofs.YtcmgimicdcchlaaGreatDoor
set_option linter.unusedVariables false
set_option maxRecDepth 20000
namespace Go.Proofs.YtcmgimicdcchlaaGreatDoor
open Go.Proofs.Tryz
open Go Go.E
theorem tlook_ok (c s : List UInt8) (kv : Value) (f u e fl : Nat) (w0 : World) (M : PH) (hM : On M w0) (hc : Tick.okName c) (hs : Tick.okName s) (hf : f ≤ 1099511627776) (hu : u ≤ 1099511627776) (he : e ≤ 1099511627776) (hfu : f < u) (hfl : fl ≤ 15) : Ok Tryz.prog 74 #[.agg #[Go.E.str c, Go.E.str s, kv, .int .i64 (f : Int), .int .i64 (u : Int), .int .i64 (e : Int), .int .i64 (fl : Int)]] w0 M (fun M' r => M = M' ∧ r = .nilIface) := by
  have hS := hM.st
  refine enterB (l := [.agg #[Go.E.str c, Go.E.str s, kv, .int .i64 (f : Int), .int .i64 (u : Int), .int .i64 (e : Int), .int .i64 (fl : Int)]]) 41 func74 rfl ntmps74 rfl ?_
  refine CW.seq ?_
  refine CW.region ?_
  refine WL.step rfl (Stp.boxA rfl rfl rfl rfl hS ?_)
  intro b1 w hb1 hS hkp hnw
  refine WL.step rfl (Stp.res rfl rfl (Res.assign rfl rfl) ?_)
  refine WL.nil (Thn_n ?_)
  refine CW.seq ?_
  have hF := hS.freezeG (i := 0) rfl hb1
  obtain ⟨M1, hG1, hbox, hS⟩ : ∃ M1, Grow w0.heap.size M M1 ∧ M1 b1 = some (.cells #[Go.E.str c, Go.E.str s, kv, .int .i64 (f : Int), .int .i64 (u : Int), .int .i64 (e : Int), .int .i64 (fl : Int)] 57 (0, 0)) ∧ St w0 w M1 [] := ⟨_, hF.2, PH.add_self _ _ _, hF.1⟩
  obtain ⟨MC, hMC, hGC⟩ : ∃ MC, MC = M1 ∧ Grow w0.heap.size M1 MC := ⟨M1, rfl, Grow.refl _ _⟩
  rw [← hMC] at hS
  clear hMC
  have hS := hS.drew
  refine CW.post (fun L' w' => Sub [(1, .pointer (some ⟨b1, 0, none⟩)), (3, .nilIface)] L' ∧ ∃ M5, Grow w0.heap.size M1 M5 ∧ St w0 w' M5 []) ?_ ?_
  · have hK0 := (hS.known hGC.1).on
    refine CW.held (fun w => On M1 w) mixed ?_
    refine AL.take 0 rfl (by kernel_rfl) (by kernel_rfl) (by kernel_rfl) rfl rfl rfl hK0 (fun w hK => Res.fieldA rfl rfl underlying57 rfl (show SZ Tryz.prog _ 1 from sz9) (by decide)) ?_
    refine AL.take 1 rfl (by kernel_rfl) (by kernel_rfl) (by kernel_rfl) rfl rfl rfl hK0 (fun w hK => Res.load1 (v := Go.E.str c) rfl rfl underlying9 rfl (w := w) (hK.st.cell (PH.cell_of hbox rfl))) ?_
    refine AL.take 2 rfl (by kernel_rfl) (by kernel_rfl) (by kernel_rfl) rfl rfl rfl hK0 (fun w hK => Res.fieldA rfl rfl underlying57 rfl (show SZ Tryz.prog _ 1 from sz9) (by decide)) ?_
    refine AL.take 3 rfl (by kernel_rfl) (by kernel_rfl) (by kernel_rfl) rfl rfl rfl hK0 (fun w hK => Res.load1 (v := Go.E.str s) rfl rfl underlying9 rfl (w := w) (hK.st.cell (PH.cell_of hbox rfl))) ?_
    refine AL.take 6 rfl (by kernel_rfl) (by kernel_rfl) (by kernel_rfl) rfl rfl rfl hK0 (fun w hK => Res.fieldA rfl rfl underlying57 rfl (show SZ Tryz.prog _ 1 from sz3) (by decide)) ?_
    refine AL.take 7 rfl (by kernel_rfl) (by kernel_rfl) (by kernel_rfl) rfl rfl rfl hK0 (fun w hK => Res.load1 (v := .int .i64 (f : Int)) rfl rfl underlying3 rfl (w := w) (hK.st.cell (PH.cell_of hbox rfl))) ?_
    refine AL.take 8 rfl (by kernel_rfl) (by kernel_rfl) (by kernel_rfl) rfl rfl rfl hK0 (fun w hK => Res.fieldA rfl rfl underlying57 rfl (show SZ Tryz.prog _ 1 from sz3) (by decide)) ?_
    refine AL.take 9 rfl (by kernel_rfl) (by kernel_rfl) (by kernel_rfl) rfl rfl rfl hK0 (fun w hK => Res.load1 (v := .int .i64 (u : Int)) rfl rfl underlying3 rfl (w := w) (hK.st.cell (PH.cell_of hbox rfl))) ?_
    refine AL.take 10 rfl (by kernel_rfl) (by kernel_rfl) (by kernel_rfl) rfl rfl rfl hK0 (fun w hK => Res.fieldA rfl rfl underlying57 rfl (show SZ Tryz.prog _ 1 from sz3) (by decide)) ?_
    refine AL.take 11 rfl (by kernel_rfl) (by kernel_rfl) (by kernel_rfl) rfl rfl rfl hK0 (fun w hK => Res.load1 (v := .int .i64 (e : Int)) rfl rfl underlying3 rfl (w := w) (hK.st.cell (PH.cell_of hbox rfl))) ?_
    refine AL.two 4 12 rfl rfl (by kernel_rfl) rfl rfl ?_ ?_
    · refine Stp.lit (vals := [(0, Go.E.str c), (1, Go.E.str s)]) (cs := #[Go.E.str c, Go.E.str s]) (e := 9) rfl rfl (fun _ => by kernel_rfl) rfl rfl hS ?_
      intro b8 w hb8 hS hkp hnw
      have hF := hS.freezeG (i := 0) rfl hb8
      obtain ⟨MC, hG9, h8, hS⟩ : ∃ M9, Grow w0.heap.size MC M9 ∧ M9 b8 = some (.cells #[Go.E.str c, Go.E.str s] 9 (0, 0)) ∧ St w0 w M9 [] := ⟨_, hF.2, PH.add_self _ _ _, hF.1⟩
      have hGC := hGC.trans hG9
      try (have h16 := hG9.1 _ _ h16)
      have hK0 : On M1 w := (hS.known hGC.1).on
      refine ⟨hK0, ?_⟩
      refine AL.two 5 12 rfl rfl (by kernel_rfl) rfl rfl ?_ ?_
      · refine Stp.callG (args := [_]) rfl rfl rfl cal112 rfl rfl hS (tnames_ok b8 0 2 2 [c, s] _ _ hS.on rfl (by decide) (fun j hj => by rcases (by omega : j = 0 ∨ j = 1) with rfl | rfl <;> exact PH.cell_of h8 rfl) (fun j hj => by rcases (by omega : j = 0 ∨ j = 1) with rfl | rfl <;> first | exact hc | exact hs)) ?_
        rintro _ w _ hS _ ⟨rfl, rfl⟩
        have hK0 : On M1 w := (hS.known hGC.1).on
        refine ⟨hK0, ?_⟩
        refine AL.one 12 rfl (by kernel_rfl) rfl (Stp.lit (vals := [(0, .int .i64 (f : Int)), (1, .int .i64 (u : Int)), (2, .int .i64 (e : Int))]) (cs := #[.int .i64 (f : Int), .int .i64 (u : Int), .int .i64 (e : Int)]) (e := 3) rfl rfl (fun _ => by kernel_rfl) rfl rfl hS ?_)
        intro b16 w hb16 hS hkp hnw
        have hF := hS.freezeG (i := 0) rfl hb16
        obtain ⟨MC, hG9, h16, hS⟩ : ∃ M9, Grow w0.heap.size MC M9 ∧ M9 b16 = some (.cells #[.int .i64 (f : Int), .int .i64 (u : Int), .int .i64 (e : Int)] 3 (0, 0)) ∧ St w0 w M9 [] := ⟨_, hF.2, PH.add_self _ _ _, hF.1⟩
        have hGC := hGC.trans hG9
        try (have h8 := hG9.1 _ _ h8)
        have hK0 : On M1 w := (hS.known hGC.1).on
        refine ⟨hK0, ?_⟩
        refine AL.one 13 rfl (by kernel_rfl) rfl (Stp.callG (args := [_]) rfl rfl rfl cal113 rfl rfl hS (ttimes_ok b16 0 3 3 [(f : Int), (u : Int), (e : Int)] _ _ hS.on rfl (by decide) (fun j hj => by rcases (by omega : j = 0 ∨ j = 1 ∨ j = 2) with rfl | rfl | rfl <;> exact PH.cell_of h16 rfl) (fun j hj => by rcases (by omega : j = 0 ∨ j = 1 ∨ j = 2) with rfl | rfl | rfl <;> first | exact ⟨Int.natCast_nonneg _, Int.ofNat_le.2 hf⟩ | exact ⟨Int.natCast_nonneg _, Int.ofNat_le.2 hu⟩ | exact ⟨Int.natCast_nonneg _, Int.ofNat_le.2 he⟩)) ?_)
        rintro _ w _ hS _ ⟨rfl, rfl⟩
        have hK0 : On M1 w := (hS.known hGC.1).on
        refine ⟨hK0, ?_⟩
        refine AL.one 14 rfl (by kernel_rfl) rfl (Stp.lit (vals := [(0, .nilIface), (1, .nilIface)]) (cs := #[.nilIface, .nilIface]) (e := 86) rfl rfl (fun _ => by kernel_rfl) rfl rfl hS ?_)
        intro b18 w hb18 hS hkp hnw
        have hF := hS.freezeG (i := 0) rfl hb18
        obtain ⟨MC, hG9, h18, hS⟩ : ∃ M9, Grow w0.heap.size MC M9 ∧ M9 b18 = some (.cells #[.nilIface, .nilIface] 86 (0, 0)) ∧ St w0 w M9 [] := ⟨_, hF.2, PH.add_self _ _ _, hF.1⟩
        have hGC := hGC.trans hG9
        have hK0 : On M1 w := (hS.known hGC.1).on
        refine ⟨hK0, ?_⟩
        refine AL.one 15 rfl (by kernel_rfl) rfl (Stp.callG (args := [_]) rfl rfl rfl cal111 rfl rfl hS (join_ok b18 _ _ hS.on (fun j hj => by rcases (by omega : j = 0 ∨ j = 1) with rfl | rfl <;> exact PH.cell_of h18 rfl)) ?_)
        rintro _ w _ hS _ ⟨rfl, rfl⟩
        have hK0 : On M1 w := (hS.known hGC.1).on
        refine ⟨hK0, ?_⟩
        refine AL.take 16 rfl (by kernel_rfl) (by kernel_rfl) (by kernel_rfl) rfl rfl rfl hK0 (fun w hK => Res.assign rfl rfl) ?_
        refine AL.done (by kernel_rfl) (Thn_n ?_)
        exact ⟨⟨rfl, rfl, trivial⟩, _, hGC, hS⟩
      · refine Stp.lit (vals := [(0, .int .i64 (f : Int)), (1, .int .i64 (u : Int)), (2, .int .i64 (e : Int))]) (cs := #[.int .i64 (f : Int), .int .i64 (u : Int), .int .i64 (e : Int)]) (e := 3) rfl rfl (fun _ => by kernel_rfl) rfl rfl hS ?_
        intro b16 w hb16 hS hkp hnw
        have hF := hS.freezeG (i := 0) rfl hb16
        obtain ⟨MC, hG9, h16, hS⟩ : ∃ M9, Grow w0.heap.size MC M9 ∧ M9 b16 = some (.cells #[.int .i64 (f : Int), .int .i64 (u : Int), .int .i64 (e : Int)] 3 (0, 0)) ∧ St w0 w M9 [] := ⟨_, hF.2, PH.add_self _ _ _, hF.1⟩
        have hGC := hGC.trans hG9
        try (have h8 := hG9.1 _ _ h8)
        have hK0 : On M1 w := (hS.known hGC.1).on
        refine ⟨hK0, ?_⟩
        refine AL.one 5 rfl (by kernel_rfl) rfl (Stp.callG (args := [_]) rfl rfl rfl cal112 rfl rfl hS (tnames_ok b8 0 2 2 [c, s] _ _ hS.on rfl (by decide) (fun j hj => by rcases (by omega : j = 0 ∨ j = 1) with rfl | rfl <;> exact PH.cell_of h8 rfl) (fun j hj => by rcases (by omega : j = 0 ∨ j = 1) with rfl | rfl <;> first | exact hc | exact hs)) ?_)
        rintro _ w _ hS _ ⟨rfl, rfl⟩
        have hK0 : On M1 w := (hS.known hGC.1).on
        refine ⟨hK0, ?_⟩
        refine AL.one 13 rfl (by kernel_rfl) rfl (Stp.callG (args := [_]) rfl rfl rfl cal113 rfl rfl hS (ttimes_ok b16 0 3 3 [(f : Int), (u : Int), (e : Int)] _ _ hS.on rfl (by decide) (fun j hj => by rcases (by omega : j = 0 ∨ j = 1 ∨ j = 2) with rfl | rfl | rfl <;> exact PH.cell_of h16 rfl) (fun j hj => by rcases (by omega : j = 0 ∨ j = 1 ∨ j = 2) with rfl | rfl | rfl <;> first | exact ⟨Int.natCast_nonneg _, Int.ofNat_le.2 hf⟩ | exact ⟨Int.natCast_nonneg _, Int.ofNat_le.2 hu⟩ | exact ⟨Int.natCast_nonneg _, Int.ofNat_le.2 he⟩)) ?_)
        rintro _ w _ hS _ ⟨rfl, rfl⟩
        have hK0 : On M1 w := (hS.known hGC.1).on
        refine ⟨hK0, ?_⟩
        refine AL.one 14 rfl (by kernel_rfl) rfl (Stp.lit (vals := [(0, .nilIface), (1, .nilIface)]) (cs := #[.nilIface, .nilIface]) (e := 86) rfl rfl (fun _ => by kernel_rfl) rfl rfl hS ?_)
        intro b18 w hb18 hS hkp hnw
        have hF := hS.freezeG (i := 0) rfl hb18
        obtain ⟨MC, hG9, h18, hS⟩ : ∃ M9, Grow w0.heap.size MC M9 ∧ M9 b18 = some (.cells #[.nilIface, .nilIface] 86 (0, 0)) ∧ St w0 w M9 [] := ⟨_, hF.2, PH.add_self _ _ _, hF.1⟩
        have hGC := hGC.trans hG9
        have hK0 : On M1 w := (hS.known hGC.1).on
        refine ⟨hK0, ?_⟩
        refine AL.one 15 rfl (by kernel_rfl) rfl (Stp.callG (args := [_]) rfl rfl rfl cal111 rfl rfl hS (join_ok b18 _ _ hS.on (fun j hj => by rcases (by omega : j = 0 ∨ j = 1) with rfl | rfl <;> exact PH.cell_of h18 rfl)) ?_)
        rintro _ w _ hS _ ⟨rfl, rfl⟩
        have hK0 : On M1 w := (hS.known hGC.1).on
        refine ⟨hK0, ?_⟩
        refine AL.take 16 rfl (by kernel_rfl) (by kernel_rfl) (by kernel_rfl) rfl rfl rfl hK0 (fun w hK => Res.assign rfl rfl) ?_
        refine AL.done (by kernel_rfl) (Thn_n ?_)
        exact ⟨⟨rfl, rfl, trivial⟩, _, hGC, hS⟩
    · refine Stp.lit (vals := [(0, .int .i64 (f : Int)), (1, .int .i64 (u : Int)), (2, .int .i64 (e : Int))]) (cs := #[.int .i64 (f : Int), .int .i64 (u : Int), .int .i64 (e : Int)]) (e := 3) rfl rfl (fun _ => by kernel_rfl) rfl rfl hS ?_
      intro b16 w hb16 hS hkp hnw
      have hF := hS.freezeG (i := 0) rfl hb16
      obtain ⟨MC, hG9, h16, hS⟩ : ∃ M9, Grow w0.heap.size MC M9 ∧ M9 b16 = some (.cells #[.int .i64 (f : Int), .int .i64 (u : Int), .int .i64 (e : Int)] 3 (0, 0)) ∧ St w0 w M9 [] := ⟨_, hF.2, PH.add_self _ _ _, hF.1⟩
      have hGC := hGC.trans hG9
      try (have h8 := hG9.1 _ _ h8)
      have hK0 : On M1 w := (hS.known hGC.1).on
      refine ⟨hK0, ?_⟩
      refine AL.one 4 rfl (by kernel_rfl) rfl (Stp.lit (vals := [(0, Go.E.str c), (1, Go.E.str s)]) (cs := #[Go.E.str c, Go.E.str s]) (e := 9) rfl rfl (fun _ => by kernel_rfl) rfl rfl hS ?_)
      intro b8 w hb8 hS hkp hnw
      have hF := hS.freezeG (i := 0) rfl hb8
      obtain ⟨MC, hG9, h8, hS⟩ : ∃ M9, Grow w0.heap.size MC M9 ∧ M9 b8 = some (.cells #[Go.E.str c, Go.E.str s] 9 (0, 0)) ∧ St w0 w M9 [] := ⟨_, hF.2, PH.add_self _ _ _, hF.1⟩
      have hGC := hGC.trans hG9
      try (have h16 := hG9.1 _ _ h16)
      have hK0 : On M1 w := (hS.known hGC.1).on
      refine ⟨hK0, ?_⟩
      refine AL.one 5 rfl (by kernel_rfl) rfl (Stp.callG (args := [_]) rfl rfl rfl cal112 rfl rfl hS (tnames_ok b8 0 2 2 [c, s] _ _ hS.on rfl (by decide) (fun j hj => by rcases (by omega : j = 0 ∨ j = 1) with rfl | rfl <;> exact PH.cell_of h8 rfl) (fun j hj => by rcases (by omega : j = 0 ∨ j = 1) with rfl | rfl <;> first | exact hc | exact hs)) ?_)
      rintro _ w _ hS _ ⟨rfl, rfl⟩
      have hK0 : On M1 w := (hS.known hGC.1).on
      refine ⟨hK0, ?_⟩
      refine AL.one 13 rfl (by kernel_rfl) rfl (Stp.callG (args := [_]) rfl rfl rfl cal113 rfl rfl hS (ttimes_ok b16 0 3 3 [(f : Int), (u : Int), (e : Int)] _ _ hS.on rfl (by decide) (fun j hj => by rcases (by omega : j = 0 ∨ j = 1 ∨ j = 2) with rfl | rfl | rfl <;> exact PH.cell_of h16 rfl) (fun j hj => by rcases (by omega : j = 0 ∨ j = 1 ∨ j = 2) with rfl | rfl | rfl <;> first | exact ⟨Int.natCast_nonneg _, Int.ofNat_le.2 hf⟩ | exact ⟨Int.natCast_nonneg _, Int.ofNat_le.2 hu⟩ | exact ⟨Int.natCast_nonneg _, Int.ofNat_le.2 he⟩)) ?_)
      rintro _ w _ hS _ ⟨rfl, rfl⟩
      have hK0 : On M1 w := (hS.known hGC.1).on
      refine ⟨hK0, ?_⟩
      refine AL.one 14 rfl (by kernel_rfl) rfl (Stp.lit (vals := [(0, .nilIface), (1, .nilIface)]) (cs := #[.nilIface, .nilIface]) (e := 86) rfl rfl (fun _ => by kernel_rfl) rfl rfl hS ?_)
      intro b18 w hb18 hS hkp hnw
      have hF := hS.freezeG (i := 0) rfl hb18
      obtain ⟨MC, hG9, h18, hS⟩ : ∃ M9, Grow w0.heap.size MC M9 ∧ M9 b18 = some (.cells #[.nilIface, .nilIface] 86 (0, 0)) ∧ St w0 w M9 [] := ⟨_, hF.2, PH.add_self _ _ _, hF.1⟩
      have hGC := hGC.trans hG9
      have hK0 : On M1 w := (hS.known hGC.1).on
      refine ⟨hK0, ?_⟩
      refine AL.one 15 rfl (by kernel_rfl) rfl (Stp.callG (args := [_]) rfl rfl rfl cal111 rfl rfl hS (join_ok b18 _ _ hS.on (fun j hj => by rcases (by omega : j = 0 ∨ j = 1) with rfl | rfl <;> exact PH.cell_of h18 rfl)) ?_)
      rintro _ w _ hS _ ⟨rfl, rfl⟩
      have hK0 : On M1 w := (hS.known hGC.1).on
      refine ⟨hK0, ?_⟩
      refine AL.take 16 rfl (by kernel_rfl) (by kernel_rfl) (by kernel_rfl) rfl rfl rfl hK0 (fun w hK => Res.assign rfl rfl) ?_
      refine AL.done (by kernel_rfl) (Thn_n ?_)
      exact ⟨⟨rfl, rfl, trivial⟩, _, hGC, hS⟩
  · rintro L2 w2 ⟨hsub, M5, hG5, hS⟩
    refine (Thn_n (CW.sub hsub ?_))
    refine CW.seq ?_
    refine CW.seq ?_
    refine CW.region ?_
    refine WL.step rfl (Stp.res rfl rfl (Res.fieldA rfl rfl underlying57 rfl (show SZ Tryz.prog _ 1 from sz3) (by decide)) ?_)
    refine WL.step rfl (Stp.res rfl rfl (Res.load1 (v := .int .i64 (u : Int)) rfl rfl underlying3 rfl (hS.cell (PH.cell_of (hG5.1 _ _ hbox) rfl))) ?_)
    refine WL.step rfl (Stp.res rfl rfl (Res.fieldA rfl rfl underlying57 rfl (show SZ Tryz.prog _ 1 from sz3) (by decide)) ?_)
    refine WL.step rfl (Stp.res rfl rfl (Res.load1 (v := .int .i64 (f : Int)) rfl rfl underlying3 rfl (hS.cell (PH.cell_of (hG5.1 _ _ hbox) rfl))) ?_)
    refine WL.step rfl (Stp.res rfl rfl (Res.toF (Res.leq rfl rfl rfl) (by omega)) ?_)
    refine WL.step rfl (Stp.res rfl rfl (Res.move rfl rfl) ?_)
    refine WL.stepG 5 false rfl rfl rfl rfl (Stp.res rfl rfl (Res.fieldA rfl rfl underlying57 rfl (show SZ Tryz.prog _ 1 from sz3) (by decide)) ?_)
    refine WL.stepG 5 false rfl rfl rfl rfl (Stp.res rfl rfl (Res.load1 (v := .int .i64 (fl : Int)) rfl rfl underlying3 rfl (hS.cell (PH.cell_of (hG5.1 _ _ hbox) rfl))) ?_)
    refine WL.stepG 5 false rfl rfl rfl rfl (Stp.res rfl rfl (Res.toF (Res.lss rfl rfl rfl) (by omega)) ?_)
    refine WL.step rfl (Stp.res rfl rfl (Res.pickF rfl rfl rfl) ?_)
    refine WL.step rfl (Stp.res rfl rfl (Res.move rfl rfl) ?_)
    refine WL.stepG 10 false rfl rfl rfl rfl (Stp.res rfl rfl (Res.fieldA rfl rfl underlying57 rfl (show SZ Tryz.prog _ 1 from sz3) (by decide)) ?_)
    refine WL.stepG 10 false rfl rfl rfl rfl (Stp.res rfl rfl (Res.load1 (v := .int .i64 (fl : Int)) rfl rfl underlying3 rfl (hS.cell (PH.cell_of (hG5.1 _ _ hbox) rfl))) ?_)
    refine WL.stepG 10 false rfl rfl rfl rfl (Stp.res rfl rfl (Res.toF (Res.gtr rfl rfl rfl) (by omega)) ?_)
    refine WL.step rfl (Stp.res rfl rfl (Res.pickF rfl rfl rfl) ?_)
    refine WL.nil (Thn_n ?_)
    refine CW.condF rfl ?_
    refine CW.skip (Thn_n ?_)
    refine CW.seq ?_
    refine CW.region ?_
    refine WL.step rfl (Stp.res rfl rfl (Res.move rfl rfl) ?_)
    refine WL.step rfl (Stp.res rfl rfl (Res.assign rfl rfl) ?_)
    refine WL.nil (Thn_n ?_)
    refine CW.ret ?_
    exact fq_tmp rfl rfl ⟨M, hS.known (hG1.trans hG5).1, PH.le.refl _, Fresh.refl _ _, rfl, rfl⟩
theorem tright_ok (c : List UInt8) (t z : Nat) (w0 : World) (M : PH) (hM : On M w0) (hc : Tick.okName c) (ht : t ≤ 1099511627776) : Ok Tryz.prog 87 #[.agg #[Go.E.str c, .int .i64 (t : Int), .int .i64 (z : Int)]] w0 M (fun M' r => M = M' ∧ r = .nilIface) := by
  have hS := hM.st
  refine enterB (l := [.agg #[Go.E.str c, .int .i64 (t : Int), .int .i64 (z : Int)]]) 13 func87 rfl ntmps87 rfl ?_
  refine CW.seq ?_
  refine CW.region ?_
  refine WL.step rfl (Stp.boxA rfl rfl rfl rfl hS ?_)
  intro b1 w hb1 hS hkp hnw
  refine WL.step rfl (Stp.res rfl rfl (Res.assign rfl rfl) ?_)
  refine WL.nil (Thn_n ?_)
  refine CW.seq ?_
  have hF := hS.freezeG (i := 0) rfl hb1
  obtain ⟨M1, hG1, hbox, hS⟩ : ∃ M1, Grow w0.heap.size M M1 ∧ M1 b1 = some (.cells #[Go.E.str c, .int .i64 (t : Int), .int .i64 (z : Int)] 67 (0, 0)) ∧ St w0 w M1 [] := ⟨_, hF.2, PH.add_self _ _ _, hF.1⟩
  obtain ⟨MC, hMC, hGC⟩ : ∃ MC, MC = M1 ∧ Grow w0.heap.size M1 MC := ⟨M1, rfl, Grow.refl _ _⟩
  rw [← hMC] at hS
  clear hMC
  have hS := hS.drew
  refine CW.post (fun L' w' => Sub [(2, .nilIface)] L' ∧ ∃ M5, Grow w0.heap.size M1 M5 ∧ St w0 w' M5 []) ?_ ?_
  · have hK0 := (hS.known hGC.1).on
    refine CW.held (fun w => On M1 w) mixed ?_
    refine AL.take 0 rfl (by kernel_rfl) (by kernel_rfl) (by kernel_rfl) rfl rfl rfl hK0 (fun w hK => Res.fieldA rfl rfl underlying67 rfl (show SZ Tryz.prog _ 1 from sz9) (by decide)) ?_
    refine AL.take 1 rfl (by kernel_rfl) (by kernel_rfl) (by kernel_rfl) rfl rfl rfl hK0 (fun w hK => Res.load1 (v := Go.E.str c) rfl rfl underlying9 rfl (w := w) (hK.st.cell (PH.cell_of hbox rfl))) ?_
    refine AL.take 4 rfl (by kernel_rfl) (by kernel_rfl) (by kernel_rfl) rfl rfl rfl hK0 (fun w hK => Res.fieldA rfl rfl underlying67 rfl (show SZ Tryz.prog _ 1 from sz3) (by decide)) ?_
    refine AL.take 5 rfl (by kernel_rfl) (by kernel_rfl) (by kernel_rfl) rfl rfl rfl hK0 (fun w hK => Res.load1 (v := .int .i64 (t : Int)) rfl rfl underlying3 rfl (w := w) (hK.st.cell (PH.cell_of hbox rfl))) ?_
    refine AL.two 2 6 rfl rfl (by kernel_rfl) rfl rfl ?_ ?_
    · refine Stp.lit (vals := [(0, Go.E.str c)]) (cs := #[Go.E.str c]) (e := 9) rfl rfl (fun _ => by kernel_rfl) rfl rfl hS ?_
      intro b5 w hb5 hS hkp hnw
      have hF := hS.freezeG (i := 0) rfl hb5
      obtain ⟨MC, hG9, h5, hS⟩ : ∃ M9, Grow w0.heap.size MC M9 ∧ M9 b5 = some (.cells #[Go.E.str c] 9 (0, 0)) ∧ St w0 w M9 [] := ⟨_, hF.2, PH.add_self _ _ _, hF.1⟩
      have hGC := hGC.trans hG9
      try (have h9 := hG9.1 _ _ h9)
      have hK0 : On M1 w := (hS.known hGC.1).on
      refine ⟨hK0, ?_⟩
      refine AL.two 3 6 rfl rfl (by kernel_rfl) rfl rfl ?_ ?_
      · refine Stp.callG (args := [_]) rfl rfl rfl cal112 rfl rfl hS (tnames_ok b5 0 1 1 [c] _ _ hS.on rfl (by decide) (fun j hj => by rcases (by omega : j = 0) with rfl; exact PH.cell_of h5 rfl) (fun j hj => by rcases (by omega : j = 0) with rfl; exact hc)) ?_
        rintro _ w _ hS _ ⟨rfl, rfl⟩
        have hK0 : On M1 w := (hS.known hGC.1).on
        refine ⟨hK0, ?_⟩
        refine AL.one 6 rfl (by kernel_rfl) rfl (Stp.lit (vals := [(0, .int .i64 (t : Int))]) (cs := #[.int .i64 (t : Int)]) (e := 3) rfl rfl (fun _ => by kernel_rfl) rfl rfl hS ?_)
        intro b9 w hb9 hS hkp hnw
        have hF := hS.freezeG (i := 0) rfl hb9
        obtain ⟨MC, hG9, h9, hS⟩ : ∃ M9, Grow w0.heap.size MC M9 ∧ M9 b9 = some (.cells #[.int .i64 (t : Int)] 3 (0, 0)) ∧ St w0 w M9 [] := ⟨_, hF.2, PH.add_self _ _ _, hF.1⟩
        have hGC := hGC.trans hG9
        try (have h5 := hG9.1 _ _ h5)
        have hK0 : On M1 w := (hS.known hGC.1).on
        refine ⟨hK0, ?_⟩
        refine AL.one 7 rfl (by kernel_rfl) rfl (Stp.callG (args := [_]) rfl rfl rfl cal113 rfl rfl hS (ttimes_ok b9 0 1 1 [(t : Int)] _ _ hS.on rfl (by decide) (fun j hj => by rcases (by omega : j = 0) with rfl; exact PH.cell_of h9 rfl) (fun j hj => by rcases (by omega : j = 0) with rfl; exact ⟨Int.natCast_nonneg _, Int.ofNat_le.2 ht⟩)) ?_)
        rintro _ w _ hS _ ⟨rfl, rfl⟩
        have hK0 : On M1 w := (hS.known hGC.1).on
        refine ⟨hK0, ?_⟩
        refine AL.one 8 rfl (by kernel_rfl) rfl (Stp.lit (vals := [(0, .nilIface), (1, .nilIface)]) (cs := #[.nilIface, .nilIface]) (e := 86) rfl rfl (fun _ => by kernel_rfl) rfl rfl hS ?_)
        intro b11 w hb11 hS hkp hnw
        have hF := hS.freezeG (i := 0) rfl hb11
        obtain ⟨MC, hG9, h11, hS⟩ : ∃ M9, Grow w0.heap.size MC M9 ∧ M9 b11 = some (.cells #[.nilIface, .nilIface] 86 (0, 0)) ∧ St w0 w M9 [] := ⟨_, hF.2, PH.add_self _ _ _, hF.1⟩
        have hGC := hGC.trans hG9
        have hK0 : On M1 w := (hS.known hGC.1).on
        refine ⟨hK0, ?_⟩
        refine AL.one 9 rfl (by kernel_rfl) rfl (Stp.callG (args := [_]) rfl rfl rfl cal111 rfl rfl hS (join_ok b11 _ _ hS.on (fun j hj => by rcases (by omega : j = 0 ∨ j = 1) with rfl | rfl <;> exact PH.cell_of h11 rfl)) ?_)
        rintro _ w _ hS _ ⟨rfl, rfl⟩
        have hK0 : On M1 w := (hS.known hGC.1).on
        refine ⟨hK0, ?_⟩
        refine AL.take 10 rfl (by kernel_rfl) (by kernel_rfl) (by kernel_rfl) rfl rfl rfl hK0 (fun w hK => Res.assign rfl rfl) ?_
        refine AL.done (by kernel_rfl) (Thn_n ?_)
        exact ⟨⟨rfl, trivial⟩, _, hGC, hS⟩
      · refine Stp.lit (vals := [(0, .int .i64 (t : Int))]) (cs := #[.int .i64 (t : Int)]) (e := 3) rfl rfl (fun _ => by kernel_rfl) rfl rfl hS ?_
        intro b9 w hb9 hS hkp hnw
        have hF := hS.freezeG (i := 0) rfl hb9
        obtain ⟨MC, hG9, h9, hS⟩ : ∃ M9, Grow w0.heap.size MC M9 ∧ M9 b9 = some (.cells #[.int .i64 (t : Int)] 3 (0, 0)) ∧ St w0 w M9 [] := ⟨_, hF.2, PH.add_self _ _ _, hF.1⟩
        have hGC := hGC.trans hG9
        try (have h5 := hG9.1 _ _ h5)
        have hK0 : On M1 w := (hS.known hGC.1).on
        refine ⟨hK0, ?_⟩
        refine AL.one 3 rfl (by kernel_rfl) rfl (Stp.callG (args := [_]) rfl rfl rfl cal112 rfl rfl hS (tnames_ok b5 0 1 1 [c] _ _ hS.on rfl (by decide) (fun j hj => by rcases (by omega : j = 0) with rfl; exact PH.cell_of h5 rfl) (fun j hj => by rcases (by omega : j = 0) with rfl; exact hc)) ?_)
        rintro _ w _ hS _ ⟨rfl, rfl⟩
        have hK0 : On M1 w := (hS.known hGC.1).on
        refine ⟨hK0, ?_⟩
        refine AL.one 7 rfl (by kernel_rfl) rfl (Stp.callG (args := [_]) rfl rfl rfl cal113 rfl rfl hS (ttimes_ok b9 0 1 1 [(t : Int)] _ _ hS.on rfl (by decide) (fun j hj => by rcases (by omega : j = 0) with rfl; exact PH.cell_of h9 rfl) (fun j hj => by rcases (by omega : j = 0) with rfl; exact ⟨Int.natCast_nonneg _, Int.ofNat_le.2 ht⟩)) ?_)
        rintro _ w _ hS _ ⟨rfl, rfl⟩
        have hK0 : On M1 w := (hS.known hGC.1).on
        refine ⟨hK0, ?_⟩
        refine AL.one 8 rfl (by kernel_rfl) rfl (Stp.lit (vals := [(0, .nilIface), (1, .nilIface)]) (cs := #[.nilIface, .nilIface]) (e := 86) rfl rfl (fun _ => by kernel_rfl) rfl rfl hS ?_)
        intro b11 w hb11 hS hkp hnw
        have hF := hS.freezeG (i := 0) rfl hb11
        obtain ⟨MC, hG9, h11, hS⟩ : ∃ M9, Grow w0.heap.size MC M9 ∧ M9 b11 = some (.cells #[.nilIface, .nilIface] 86 (0, 0)) ∧ St w0 w M9 [] := ⟨_, hF.2, PH.add_self _ _ _, hF.1⟩
        have hGC := hGC.trans hG9
        have hK0 : On M1 w := (hS.known hGC.1).on
        refine ⟨hK0, ?_⟩
        refine AL.one 9 rfl (by kernel_rfl) rfl (Stp.callG (args := [_]) rfl rfl rfl cal111 rfl rfl hS (join_ok b11 _ _ hS.on (fun j hj => by rcases (by omega : j = 0 ∨ j = 1) with rfl | rfl <;> exact PH.cell_of h11 rfl)) ?_)
        rintro _ w _ hS _ ⟨rfl, rfl⟩
        have hK0 : On M1 w := (hS.known hGC.1).on
        refine ⟨hK0, ?_⟩
        refine AL.take 10 rfl (by kernel_rfl) (by kernel_rfl) (by kernel_rfl) rfl rfl rfl hK0 (fun w hK => Res.assign rfl rfl) ?_
        refine AL.done (by kernel_rfl) (Thn_n ?_)
        exact ⟨⟨rfl, trivial⟩, _, hGC, hS⟩
    · refine Stp.lit (vals := [(0, .int .i64 (t : Int))]) (cs := #[.int .i64 (t : Int)]) (e := 3) rfl rfl (fun _ => by kernel_rfl) rfl rfl hS ?_
      intro b9 w hb9 hS hkp hnw
      have hF := hS.freezeG (i := 0) rfl hb9
      obtain ⟨MC, hG9, h9, hS⟩ : ∃ M9, Grow w0.heap.size MC M9 ∧ M9 b9 = some (.cells #[.int .i64 (t : Int)] 3 (0, 0)) ∧ St w0 w M9 [] := ⟨_, hF.2, PH.add_self _ _ _, hF.1⟩
      have hGC := hGC.trans hG9
      try (have h5 := hG9.1 _ _ h5)
      have hK0 : On M1 w := (hS.known hGC.1).on
      refine ⟨hK0, ?_⟩
      refine AL.one 2 rfl (by kernel_rfl) rfl (Stp.lit (vals := [(0, Go.E.str c)]) (cs := #[Go.E.str c]) (e := 9) rfl rfl (fun _ => by kernel_rfl) rfl rfl hS ?_)
      intro b5 w hb5 hS hkp hnw
      have hF := hS.freezeG (i := 0) rfl hb5
      obtain ⟨MC, hG9, h5, hS⟩ : ∃ M9, Grow w0.heap.size MC M9 ∧ M9 b5 = some (.cells #[Go.E.str c] 9 (0, 0)) ∧ St w0 w M9 [] := ⟨_, hF.2, PH.add_self _ _ _, hF.1⟩
      have hGC := hGC.trans hG9
      try (have h9 := hG9.1 _ _ h9)
      have hK0 : On M1 w := (hS.known hGC.1).on
      refine ⟨hK0, ?_⟩
      refine AL.one 3 rfl (by kernel_rfl) rfl (Stp.callG (args := [_]) rfl rfl rfl cal112 rfl rfl hS (tnames_ok b5 0 1 1 [c] _ _ hS.on rfl (by decide) (fun j hj => by rcases (by omega : j = 0) with rfl; exact PH.cell_of h5 rfl) (fun j hj => by rcases (by omega : j = 0) with rfl; exact hc)) ?_)
      rintro _ w _ hS _ ⟨rfl, rfl⟩
      have hK0 : On M1 w := (hS.known hGC.1).on
      refine ⟨hK0, ?_⟩
      refine AL.one 7 rfl (by kernel_rfl) rfl (Stp.callG (args := [_]) rfl rfl rfl cal113 rfl rfl hS (ttimes_ok b9 0 1 1 [(t : Int)] _ _ hS.on rfl (by decide) (fun j hj => by rcases (by omega : j = 0) with rfl; exact PH.cell_of h9 rfl) (fun j hj => by rcases (by omega : j = 0) with rfl; exact ⟨Int.natCast_nonneg _, Int.ofNat_le.2 ht⟩)) ?_)
      rintro _ w _ hS _ ⟨rfl, rfl⟩
      have hK0 : On M1 w := (hS.known hGC.1).on
      refine ⟨hK0, ?_⟩
      refine AL.one 8 rfl (by kernel_rfl) rfl (Stp.lit (vals := [(0, .nilIface), (1, .nilIface)]) (cs := #[.nilIface, .nilIface]) (e := 86) rfl rfl (fun _ => by kernel_rfl) rfl rfl hS ?_)
      intro b11 w hb11 hS hkp hnw
      have hF := hS.freezeG (i := 0) rfl hb11
      obtain ⟨MC, hG9, h11, hS⟩ : ∃ M9, Grow w0.heap.size MC M9 ∧ M9 b11 = some (.cells #[.nilIface, .nilIface] 86 (0, 0)) ∧ St w0 w M9 [] := ⟨_, hF.2, PH.add_self _ _ _, hF.1⟩
      have hGC := hGC.trans hG9
      have hK0 : On M1 w := (hS.known hGC.1).on
      refine ⟨hK0, ?_⟩
      refine AL.one 9 rfl (by kernel_rfl) rfl (Stp.callG (args := [_]) rfl rfl rfl cal111 rfl rfl hS (join_ok b11 _ _ hS.on (fun j hj => by rcases (by omega : j = 0 ∨ j = 1) with rfl | rfl <;> exact PH.cell_of h11 rfl)) ?_)
      rintro _ w _ hS _ ⟨rfl, rfl⟩
      have hK0 : On M1 w := (hS.known hGC.1).on
      refine ⟨hK0, ?_⟩
      refine AL.take 10 rfl (by kernel_rfl) (by kernel_rfl) (by kernel_rfl) rfl rfl rfl hK0 (fun w hK => Res.assign rfl rfl) ?_
      refine AL.done (by kernel_rfl) (Thn_n ?_)
      exact ⟨⟨rfl, trivial⟩, _, hGC, hS⟩
  · rintro L2 w2 ⟨hsub, M5, hG5, hS⟩
    refine (Thn_n (CW.sub hsub ?_))
    refine CW.ret ?_
    exact fq_tmp rfl rfl ⟨M, hS.known (hG1.trans hG5).1, PH.le.refl _, Fresh.refl _ _, rfl, rfl⟩
end Go.Proofs.YtcmgimicdcchlaaGreatDoor
set_option linter.unusedVariables false
set_option maxRecDepth 20000
namespace Go.Proofs.YtcmgimicdcchlaaGreatDoor
open Go.Proofs.Tryz
open Go Go.E
theorem tseal_ok (kv cv : Value) (key conf c : List UInt8) (t z : Nat) (w0 : World) (M : PH) (hM : On M w0) (hgl : GL M) (hkey : Bs M kv key) (hconf : Bs M cv conf) (hc : Tick.okName c) (ht : t ≤ 1099511627776) (hz : z ≤ 2305843009213693952) : Ok Tryz.prog 44 #[kv, cv, .agg #[Go.E.str c, .int .i64 (t : Int), .int .i64 (z : Int)]] w0 M (fun M' r => ∃ v, r = .tuple #[v, .int .i64 (Seal.sealR key 11 conf (Tick.enc 0 [c, Tick.be8 t, Tick.be8 z])).2] ∧ Bs M' v (Seal.sealR key 11 conf (Tick.enc 0 [c, Tick.be8 t, Tick.be8 z])).1) := by
  have hS := hM.st
  refine enterB (l := [kv, cv, .agg #[Go.E.str c, .int .i64 (t : Int), .int .i64 (z : Int)]]) 31 func44 rfl ntmps44 rfl ?_
  refine CW.seq ?_
  refine CW.region ?_
  refine WL.step rfl (Stp.boxA rfl rfl rfl rfl hS ?_)
  intro b5 w hb5 hS hkp hnw
  refine WL.step rfl (Stp.res rfl rfl (Res.assign rfl rfl) ?_)
  refine WL.step rfl (Stp.res rfl rfl (Res.assign rfl rfl) ?_)
  refine WL.nil (Thn_n ?_)
  refine CW.seq ?_
  refine CW.seq ?_
  have hF := hS.freezeG (i := 0) rfl hb5
  obtain ⟨M1, hG1, hbox, hS⟩ : ∃ M1, Grow w0.heap.size M M1 ∧ M1 b5 = some (.cells #[Go.E.str c, .int .i64 (t : Int), .int .i64 (z : Int)] 67 (0, 0)) ∧ St w0 w M1 [] := ⟨_, hF.2, PH.add_self _ _ _, hF.1⟩
  refine CW.region ?_
  refine WL.step rfl (Stp.res rfl rfl (Res.loadAll (cs := #[Go.E.str c, .int .i64 (t : Int), .int .i64 (z : Int)]) rfl rfl underlying67 rfl (sz67) (hS.on _ _ hbox)) ?_)
  refine WL.step rfl (Stp.callG (args := [_]) rfl rfl rfl cal87 rfl rfl hS (tright_ok c t z _ _ hS.on hc ht) ?_)
  rintro _ w _ hS _ ⟨rfl, rfl⟩
  refine WL.step rfl (Stp.res rfl rfl (Res.assign rfl rfl) ?_)
  refine WL.nil (Thn_n ?_)
  refine CW.seq ?_
  refine CW.region ?_
  refine WL.step rfl (Stp.res rfl rfl (Res.move rfl rfl) ?_)
  refine WL.step rfl (Stp.res rfl rfl (Res.neqNN rfl rfl underlying86) ?_)
  refine WL.nil (Thn_n ?_)
  refine CW.condF rfl ?_
  refine CW.skip (Thn_n ?_)
  refine CW.seq ?_
  have hcl := hc.2
  obtain ⟨MC, hMC, hGC⟩ : ∃ MC, MC = M1 ∧ Grow w0.heap.size M1 MC := ⟨M1, rfl, Grow.refl _ _⟩
  rw [← hMC] at hS
  clear hMC
  have hS := hS.drew
  refine CW.post (fun L' w' => ∃ v M5, Sub [(6, v), (7, .int .i64 (Seal.sealR key 11 conf (Tick.enc 0 [c, Tick.be8 t, Tick.be8 z])).2)] L' ∧ Grow w0.heap.size M1 M5 ∧ St w0 w' M5 [] ∧ Bs M5 v (Seal.sealR key 11 conf (Tick.enc 0 [c, Tick.be8 t, Tick.be8 z])).1) ?_ ?_
  · have hK0 := (hS.known hGC.1).on
    refine CW.held (fun w => On M1 w) mixed ?_
    refine AL.take 0 rfl (by kernel_rfl) (by kernel_rfl) (by kernel_rfl) rfl rfl rfl hK0 (fun w hK => Res.move rfl rfl) ?_
    refine AL.take 1 rfl (by kernel_rfl) (by kernel_rfl) (by kernel_rfl) rfl rfl rfl hK0 (fun w hK => Res.move rfl rfl) ?_
    refine AL.take 2 rfl (by kernel_rfl) (by kernel_rfl) (by kernel_rfl) rfl rfl rfl hK0 (fun w hK => Res.fieldA rfl rfl underlying67 rfl (show SZ Tryz.prog _ 1 from sz9) (by decide)) ?_
    refine AL.take 3 rfl (by kernel_rfl) (by kernel_rfl) (by kernel_rfl) rfl rfl rfl hK0 (fun w hK => Res.load1 (v := Go.E.str c) rfl rfl underlying9 rfl (w := w) (hK.st.cell (PH.cell_of hbox rfl))) ?_
    refine AL.take 5 rfl (by kernel_rfl) (by kernel_rfl) (by kernel_rfl) rfl rfl rfl hK0 (fun w hK => Res.fieldA rfl rfl underlying67 rfl (show SZ Tryz.prog _ 1 from sz3) (by decide)) ?_
    refine AL.take 6 rfl (by kernel_rfl) (by kernel_rfl) (by kernel_rfl) rfl rfl rfl hK0 (fun w hK => Res.load1 (v := .int .i64 (t : Int)) rfl rfl underlying3 rfl (w := w) (hK.st.cell (PH.cell_of hbox rfl))) ?_
    refine AL.take 8 rfl (by kernel_rfl) (by kernel_rfl) (by kernel_rfl) rfl rfl rfl hK0 (fun w hK => Res.fieldA rfl rfl underlying67 rfl (show SZ Tryz.prog _ 1 from sz3) (by decide)) ?_
    refine AL.take 9 rfl (by kernel_rfl) (by kernel_rfl) (by kernel_rfl) rfl rfl rfl hK0 (fun w hK => Res.load1 (v := .int .i64 (z : Int)) rfl rfl underlying3 rfl (w := w) (hK.st.cell (PH.cell_of hbox rfl))) ?_
    refine AL.two 4 7 rfl rfl (by kernel_rfl) rfl rfl ?_ ?_
    · refine Stp.s2b (l := c) rfl rfl underlying9 underlying30 underlying5 (by omega) hS rfl rfl ?_
      intro w yqa MX hS hG9 qa
      obtain ⟨qaa, qac, rfl, -, -, -, -⟩ := id qa
      obtain ⟨MC, hMC⟩ : ∃ MC, MC = MX := ⟨_, rfl⟩
      subst hMC
      have hGC := hGC.trans hG9
      try (have qc := qc.mono hG9.1)
      try (have qd := qd.mono hG9.1)
      have hK0 : On M1 w := (hS.known hGC.1).on
      refine ⟨hK0, ?_⟩
      refine AL.one 7 rfl (by kernel_rfl) rfl (Stp.callG (args := [_]) rfl rfl rfl cal77 rfl rfl hS (int8_ok t _ _ hS.on (by omega)) ?_)
      rintro yqc w MX hS hG9 qc
      obtain ⟨qca, qcc, rfl, -, -, -, -⟩ := id qc
      obtain ⟨MC, hMC⟩ : ∃ MC, MC = MX := ⟨_, rfl⟩
      subst hMC
      have hGC := hGC.trans hG9
      try (have qa := qa.mono hG9.1)
      try (have qd := qd.mono hG9.1)
      have hK0 : On M1 w := (hS.known hGC.1).on
      refine ⟨hK0, ?_⟩
      refine AL.one 10 rfl (by kernel_rfl) rfl (Stp.callG (args := [_]) rfl rfl rfl cal77 rfl rfl hS (int8_ok z _ _ hS.on (by omega)) ?_)
      rintro yqd w MX hS hG9 qd
      obtain ⟨qda, qdc, rfl, -, -, -, -⟩ := id qd
      obtain ⟨MC, hMC⟩ : ∃ MC, MC = MX := ⟨_, rfl⟩
      subst hMC
      have hGC := hGC.trans hG9
      try (have qa := qa.mono hG9.1)
      try (have qc := qc.mono hG9.1)
      have hK0 : On M1 w := (hS.known hGC.1).on
      refine ⟨hK0, ?_⟩
      refine AL.one 11 rfl (by kernel_rfl) rfl (Stp.lit (vals := [(0, .slice qaa (c).length qac), (1, .slice qca (Tick.be8 t).length qcc), (2, .slice qda (Tick.be8 z).length qdc)]) (cs := #[.slice qaa (c).length qac, .slice qca (Tick.be8 t).length qcc, .slice qda (Tick.be8 z).length qdc]) (e := 30) rfl rfl (fun _ => by kernel_rfl) rfl rfl hS ?_)
      intro b26 w hb26 hS hkp hnw
      have hF := hS.freezeG (i := 0) rfl hb26
      obtain ⟨MC, hG9, hlt, hS⟩ : ∃ M9, Grow w0.heap.size MC M9 ∧ M9 b26 = some (.cells #[.slice qaa (c).length qac, .slice qca (Tick.be8 t).length qcc, .slice qda (Tick.be8 z).length qdc] 30 (0, 0)) ∧ St w0 w M9 [] := ⟨_, hF.2, PH.add_self _ _ _, hF.1⟩
      have hGC := hGC.trans hG9
      have qa := qa.mono hG9.1
      have qc := qc.mono hG9.1
      have qd := qd.mono hG9.1
      have hK0 : On M1 w := (hS.known hGC.1).on
      refine ⟨hK0, ?_⟩
      refine AL.one 12 rfl (by kernel_rfl) rfl (Stp.callG (args := [_]) rfl rfl rfl cal76 rfl rfl hS (value_ok b26 0 3 [.slice qaa (c).length qac, .slice qca (Tick.be8 t).length qcc, .slice qda (Tick.be8 z).length qdc] [c, Tick.be8 t, Tick.be8 z] _ _ hS.on (fun j x hj => by rw [Nat.zero_add]; exact PH.cell_of hlt (by rw [List.getElem?_toArray]; exact hj)) ⟨rfl, fun j hj => by
        rcases (by have hj' : j < 3 := hj; omega : j = 0 ∨ j = 1 ∨ j = 2) with rfl | rfl | rfl
        · exact ⟨_, rfl, qa⟩
        · exact ⟨_, rfl, qc⟩
        · exact ⟨_, rfl, qd⟩⟩ (by show 0 < 3; decide) (by show 3 ≤ 255; decide) (by rw [Tick.enc_length]; simp only [List.map_cons, List.map_nil, List.sum_cons, List.sum_nil, Tick.be8_length]; have := hc.2; omega)) ?_)
      rintro vv w MX hS hG9 hvv
      obtain ⟨MC, hMC⟩ : ∃ MC, MC = MX := ⟨_, rfl⟩
      subst hMC
      have hGC := hGC.trans hG9
      have hK0 : On M1 w := (hS.known hGC.1).on
      refine ⟨hK0, ?_⟩
      refine AL.one 13 rfl (by kernel_rfl) rfl (Stp.callG (args := [_, _, _, _]) rfl rfl rfl cal88 rfl rfl hS (seal_all _ _ _ key conf (Tick.enc 0 [c, Tick.be8 t, Tick.be8 z]) 11 _ _ hS.on (hgl.mono (hG1.trans hGC).1) (hkey.mono (hG1.trans hGC).1) (hconf.mono (hG1.trans hGC).1) hvv) ?_)
      rintro _ w MX hS hG9 ⟨sv, rfl, hsv⟩
      obtain ⟨MC, hMC⟩ : ∃ MC, MC = MX := ⟨_, rfl⟩
      subst hMC
      have hGC := hGC.trans hG9
      have hK0 : On M1 w := (hS.known hGC.1).on
      refine ⟨hK0, ?_⟩
      refine AL.take 14 rfl (by kernel_rfl) (by kernel_rfl) (by kernel_rfl) rfl rfl rfl hK0 (fun w hK => Res.extract (l := [_, _]) rfl rfl rfl) ?_
      refine AL.take 15 rfl (by kernel_rfl) (by kernel_rfl) (by kernel_rfl) rfl rfl rfl hK0 (fun w hK => Res.extract (l := [_, _]) rfl rfl rfl) ?_
      refine AL.take 16 rfl (by kernel_rfl) (by kernel_rfl) (by kernel_rfl) rfl rfl rfl hK0 (fun w hK => Res.assign rfl rfl) ?_
      refine AL.take 17 rfl (by kernel_rfl) (by kernel_rfl) (by kernel_rfl) rfl rfl rfl hK0 (fun w hK => Res.assign rfl rfl) ?_
      refine AL.done (by kernel_rfl) (Thn_n ?_)
      exact ⟨_, _, ⟨rfl, rfl, trivial⟩, hGC, hS, hsv⟩
    · refine Stp.callG (args := [_]) rfl rfl rfl cal77 rfl rfl hS (int8_ok t _ _ hS.on (by omega)) ?_
      rintro yqc w MX hS hG9 qc
      obtain ⟨qca, qcc, rfl, -, -, -, -⟩ := id qc
      obtain ⟨MC, hMC⟩ : ∃ MC, MC = MX := ⟨_, rfl⟩
      subst hMC
      have hGC := hGC.trans hG9
      try (have qa := qa.mono hG9.1)
      try (have qd := qd.mono hG9.1)
      have hK0 : On M1 w := (hS.known hGC.1).on
      refine ⟨hK0, ?_⟩
      refine AL.two 4 10 rfl rfl (by kernel_rfl) rfl rfl ?_ ?_
      · refine Stp.s2b (l := c) rfl rfl underlying9 underlying30 underlying5 (by omega) hS rfl rfl ?_
        intro w yqa MX hS hG9 qa
        obtain ⟨qaa, qac, rfl, -, -, -, -⟩ := id qa
        obtain ⟨MC, hMC⟩ : ∃ MC, MC = MX := ⟨_, rfl⟩
        subst hMC
        have hGC := hGC.trans hG9
        try (have qc := qc.mono hG9.1)
        try (have qd := qd.mono hG9.1)
        have hK0 : On M1 w := (hS.known hGC.1).on
        refine ⟨hK0, ?_⟩
        refine AL.one 10 rfl (by kernel_rfl) rfl (Stp.callG (args := [_]) rfl rfl rfl cal77 rfl rfl hS (int8_ok z _ _ hS.on (by omega)) ?_)
        rintro yqd w MX hS hG9 qd
        obtain ⟨qda, qdc, rfl, -, -, -, -⟩ := id qd
        obtain ⟨MC, hMC⟩ : ∃ MC, MC = MX := ⟨_, rfl⟩
        subst hMC
        have hGC := hGC.trans hG9
        try (have qa := qa.mono hG9.1)
        try (have qc := qc.mono hG9.1)
        have hK0 : On M1 w := (hS.known hGC.1).on
        refine ⟨hK0, ?_⟩
        refine AL.one 11 rfl (by kernel_rfl) rfl (Stp.lit (vals := [(0, .slice qaa (c).length qac), (1, .slice qca (Tick.be8 t).length qcc), (2, .slice qda (Tick.be8 z).length qdc)]) (cs := #[.slice qaa (c).length qac, .slice qca (Tick.be8 t).length qcc, .slice qda (Tick.be8 z).length qdc]) (e := 30) rfl rfl (fun _ => by kernel_rfl) rfl rfl hS ?_)
        intro b26 w hb26 hS hkp hnw
        have hF := hS.freezeG (i := 0) rfl hb26
        obtain ⟨MC, hG9, hlt, hS⟩ : ∃ M9, Grow w0.heap.size MC M9 ∧ M9 b26 = some (.cells #[.slice qaa (c).length qac, .slice qca (Tick.be8 t).length qcc, .slice qda (Tick.be8 z).length qdc] 30 (0, 0)) ∧ St w0 w M9 [] := ⟨_, hF.2, PH.add_self _ _ _, hF.1⟩
        have hGC := hGC.trans hG9
        have qa := qa.mono hG9.1
        have qc := qc.mono hG9.1
        have qd := qd.mono hG9.1
        have hK0 : On M1 w := (hS.known hGC.1).on
        refine ⟨hK0, ?_⟩
        refine AL.one 12 rfl (by kernel_rfl) rfl (Stp.callG (args := [_]) rfl rfl rfl cal76 rfl rfl hS (value_ok b26 0 3 [.slice qaa (c).length qac, .slice qca (Tick.be8 t).length qcc, .slice qda (Tick.be8 z).length qdc] [c, Tick.be8 t, Tick.be8 z] _ _ hS.on (fun j x hj => by rw [Nat.zero_add]; exact PH.cell_of hlt (by rw [List.getElem?_toArray]; exact hj)) ⟨rfl, fun j hj => by
          rcases (by have hj' : j < 3 := hj; omega : j = 0 ∨ j = 1 ∨ j = 2) with rfl | rfl | rfl
          · exact ⟨_, rfl, qa⟩
          · exact ⟨_, rfl, qc⟩
          · exact ⟨_, rfl, qd⟩⟩ (by show 0 < 3; decide) (by show 3 ≤ 255; decide) (by rw [Tick.enc_length]; simp only [List.map_cons, List.map_nil, List.sum_cons, List.sum_nil, Tick.be8_length]; have := hc.2; omega)) ?_)
        rintro vv w MX hS hG9 hvv
        obtain ⟨MC, hMC⟩ : ∃ MC, MC = MX := ⟨_, rfl⟩
        subst hMC
        have hGC := hGC.trans hG9
        have hK0 : On M1 w := (hS.known hGC.1).on
        refine ⟨hK0, ?_⟩
        refine AL.one 13 rfl (by kernel_rfl) rfl (Stp.callG (args := [_, _, _, _]) rfl rfl rfl cal88 rfl rfl hS (seal_all _ _ _ key conf (Tick.enc 0 [c, Tick.be8 t, Tick.be8 z]) 11 _ _ hS.on (hgl.mono (hG1.trans hGC).1) (hkey.mono (hG1.trans hGC).1) (hconf.mono (hG1.trans hGC).1) hvv) ?_)
        rintro _ w MX hS hG9 ⟨sv, rfl, hsv⟩
        obtain ⟨MC, hMC⟩ : ∃ MC, MC = MX := ⟨_, rfl⟩
        subst hMC
        have hGC := hGC.trans hG9
        have hK0 : On M1 w := (hS.known hGC.1).on
        refine ⟨hK0, ?_⟩
        refine AL.take 14 rfl (by kernel_rfl) (by kernel_rfl) (by kernel_rfl) rfl rfl rfl hK0 (fun w hK => Res.extract (l := [_, _]) rfl rfl rfl) ?_
        refine AL.take 15 rfl (by kernel_rfl) (by kernel_rfl) (by kernel_rfl) rfl rfl rfl hK0 (fun w hK => Res.extract (l := [_, _]) rfl rfl rfl) ?_
        refine AL.take 16 rfl (by kernel_rfl) (by kernel_rfl) (by kernel_rfl) rfl rfl rfl hK0 (fun w hK => Res.assign rfl rfl) ?_
        refine AL.take 17 rfl (by kernel_rfl) (by kernel_rfl) (by kernel_rfl) rfl rfl rfl hK0 (fun w hK => Res.assign rfl rfl) ?_
        refine AL.done (by kernel_rfl) (Thn_n ?_)
        exact ⟨_, _, ⟨rfl, rfl, trivial⟩, hGC, hS, hsv⟩
      · refine Stp.callG (args := [_]) rfl rfl rfl cal77 rfl rfl hS (int8_ok z _ _ hS.on (by omega)) ?_
        rintro yqd w MX hS hG9 qd
        obtain ⟨qda, qdc, rfl, -, -, -, -⟩ := id qd
        obtain ⟨MC, hMC⟩ : ∃ MC, MC = MX := ⟨_, rfl⟩
        subst hMC
        have hGC := hGC.trans hG9
        try (have qa := qa.mono hG9.1)
        try (have qc := qc.mono hG9.1)
        have hK0 : On M1 w := (hS.known hGC.1).on
        refine ⟨hK0, ?_⟩
        refine AL.one 4 rfl (by kernel_rfl) rfl (Stp.s2b (l := c) rfl rfl underlying9 underlying30 underlying5 (by omega) hS rfl rfl ?_)
        intro w yqa MX hS hG9 qa
        obtain ⟨qaa, qac, rfl, -, -, -, -⟩ := id qa
        obtain ⟨MC, hMC⟩ : ∃ MC, MC = MX := ⟨_, rfl⟩
        subst hMC
        have hGC := hGC.trans hG9
        try (have qc := qc.mono hG9.1)
        try (have qd := qd.mono hG9.1)
        have hK0 : On M1 w := (hS.known hGC.1).on
        refine ⟨hK0, ?_⟩
        refine AL.one 11 rfl (by kernel_rfl) rfl (Stp.lit (vals := [(0, .slice qaa (c).length qac), (1, .slice qca (Tick.be8 t).length qcc), (2, .slice qda (Tick.be8 z).length qdc)]) (cs := #[.slice qaa (c).length qac, .slice qca (Tick.be8 t).length qcc, .slice qda (Tick.be8 z).length qdc]) (e := 30) rfl rfl (fun _ => by kernel_rfl) rfl rfl hS ?_)
        intro b26 w hb26 hS hkp hnw
        have hF := hS.freezeG (i := 0) rfl hb26
        obtain ⟨MC, hG9, hlt, hS⟩ : ∃ M9, Grow w0.heap.size MC M9 ∧ M9 b26 = some (.cells #[.slice qaa (c).length qac, .slice qca (Tick.be8 t).length qcc, .slice qda (Tick.be8 z).length qdc] 30 (0, 0)) ∧ St w0 w M9 [] := ⟨_, hF.2, PH.add_self _ _ _, hF.1⟩
        have hGC := hGC.trans hG9
        have qa := qa.mono hG9.1
        have qc := qc.mono hG9.1
        have qd := qd.mono hG9.1
        have hK0 : On M1 w := (hS.known hGC.1).on
        refine ⟨hK0, ?_⟩
        refine AL.one 12 rfl (by kernel_rfl) rfl (Stp.callG (args := [_]) rfl rfl rfl cal76 rfl rfl hS (value_ok b26 0 3 [.slice qaa (c).length qac, .slice qca (Tick.be8 t).length qcc, .slice qda (Tick.be8 z).length qdc] [c, Tick.be8 t, Tick.be8 z] _ _ hS.on (fun j x hj => by rw [Nat.zero_add]; exact PH.cell_of hlt (by rw [List.getElem?_toArray]; exact hj)) ⟨rfl, fun j hj => by
          rcases (by have hj' : j < 3 := hj; omega : j = 0 ∨ j = 1 ∨ j = 2) with rfl | rfl | rfl
          · exact ⟨_, rfl, qa⟩
          · exact ⟨_, rfl, qc⟩
          · exact ⟨_, rfl, qd⟩⟩ (by show 0 < 3; decide) (by show 3 ≤ 255; decide) (by rw [Tick.enc_length]; simp only [List.map_cons, List.map_nil, List.sum_cons, List.sum_nil, Tick.be8_length]; have := hc.2; omega)) ?_)
        rintro vv w MX hS hG9 hvv
        obtain ⟨MC, hMC⟩ : ∃ MC, MC = MX := ⟨_, rfl⟩
        subst hMC
        have hGC := hGC.trans hG9
        have hK0 : On M1 w := (hS.known hGC.1).on
        refine ⟨hK0, ?_⟩
        refine AL.one 13 rfl (by kernel_rfl) rfl (Stp.callG (args := [_, _, _, _]) rfl rfl rfl cal88 rfl rfl hS (seal_all _ _ _ key conf (Tick.enc 0 [c, Tick.be8 t, Tick.be8 z]) 11 _ _ hS.on (hgl.mono (hG1.trans hGC).1) (hkey.mono (hG1.trans hGC).1) (hconf.mono (hG1.trans hGC).1) hvv) ?_)
        rintro _ w MX hS hG9 ⟨sv, rfl, hsv⟩
        obtain ⟨MC, hMC⟩ : ∃ MC, MC = MX := ⟨_, rfl⟩
        subst hMC
        have hGC := hGC.trans hG9
        have hK0 : On M1 w := (hS.known hGC.1).on
        refine ⟨hK0, ?_⟩
        refine AL.take 14 rfl (by kernel_rfl) (by kernel_rfl) (by kernel_rfl) rfl rfl rfl hK0 (fun w hK => Res.extract (l := [_, _]) rfl rfl rfl) ?_
        refine AL.take 15 rfl (by kernel_rfl) (by kernel_rfl) (by kernel_rfl) rfl rfl rfl hK0 (fun w hK => Res.extract (l := [_, _]) rfl rfl rfl) ?_
        refine AL.take 16 rfl (by kernel_rfl) (by kernel_rfl) (by kernel_rfl) rfl rfl rfl hK0 (fun w hK => Res.assign rfl rfl) ?_
        refine AL.take 17 rfl (by kernel_rfl) (by kernel_rfl) (by kernel_rfl) rfl rfl rfl hK0 (fun w hK => Res.assign rfl rfl) ?_
        refine AL.done (by kernel_rfl) (Thn_n ?_)
        exact ⟨_, _, ⟨rfl, rfl, trivial⟩, hGC, hS, hsv⟩
  · rintro L2 w2 ⟨v, M5, hsub, hG5, hS, hvv⟩
    refine (Thn_n (CW.sub hsub ?_))
    refine CW.ret ?_
    exact fq_tmp2 rfl rfl rfl ⟨M5, hS, (hG1.trans hG5).1, (hG1.trans hG5).2, _, rfl, hvv⟩
end Go.Proofs.YtcmgimicdcchlaaGreatDoor
set_option linter.unusedVariables false
set_option maxRecDepth 20000
namespace Go.Proofs.YtcmgimicdcchlaaGreatDoor
open Go.Proofs.Tryz
open Go Go.E
theorem tread_ok (v : Value) (c s : List UInt8) (f u e fl : Nat) (w0 : World) (M : PH) (hM : On M w0) (hv : Bs M v (Tick.enc 0 [c, s, Tick.be8 f, Tick.be8 u, Tick.be8 e, Tick.be8 fl])) (hc : Tick.okName c) (hs : Tick.okName s) (hf : f ≤ 1099511627776) (hu : u ≤ 1099511627776) (he : e ≤ 1099511627776) (hfu : f < u) (hfl : fl ≤ 15) : Ok Tryz.prog 35 #[v] w0 M (fun M' r => M = M' ∧ r = .tuple #[.agg #[Go.E.str c, Go.E.str s, .slice none 0 0, .int .i64 (f : Int), .int .i64 (u : Int), .int .i64 (e : Int), .int .i64 (fl : Int)], .int .i64 0]) := by
  have hS := hM.st
  refine enterB (l := [v]) 59 func35 rfl ntmps35 rfl ?_
  refine CW.seq ?_
  refine CW.region ?_
  refine WL.step rfl (Stp.alloc (cs := #[Go.E.str [], Go.E.str [], .slice none 0 0, .int .i64 0, .int .i64 0, .int .i64 0, .int .i64 0]) rfl zTk rfl rfl rfl hS ?_)
  intro b2 w hb2 hS hkp hnw
  refine WL.step rfl (Stp.res rfl rfl (Res.assign rfl rfl) ?_)
  refine WL.nil (Thn_n ?_)
  refine CW.seq ?_
  refine CW.region ?_
  refine WL.step rfl (Stp.res rfl rfl (Res.move rfl rfl) ?_)
  refine WL.step rfl (Stp.callG (args := [_, _]) rfl rfl rfl cal81 rfl rfl hS (fields_ok _ [c, s, Tick.be8 f, Tick.be8 u, Tick.be8 e, Tick.be8 fl] _ _ hS.on hv (by show 0 < 6; decide) (by show 6 ≤ 255; decide) (by rw [Tick.enc_length]; simp only [List.map_cons, List.map_nil, List.sum_cons, List.sum_nil, Tick.be8_length]; have := hc.2; have := hs.2; omega)) ?_)
  rintro _ w M1 hS hG1 ⟨fb, fc, xs, rfl, hfc1, hfc2, hfcell, hfb⟩
  change 6 ≤ fc at hfc1
  obtain ⟨y0, hy0, hyb0⟩ := hfb.2 0 (by show 0 < 6; decide)
  have hyc0 := hfcell _ _ hy0
  obtain ⟨y1, hy1, hyb1⟩ := hfb.2 1 (by show 1 < 6; decide)
  have hyc1 := hfcell _ _ hy1
  obtain ⟨y2, hy2, hyb2⟩ := hfb.2 2 (by show 2 < 6; decide)
  have hyc2 := hfcell _ _ hy2
  obtain ⟨y3, hy3, hyb3⟩ := hfb.2 3 (by show 3 < 6; decide)
  have hyc3 := hfcell _ _ hy3
  obtain ⟨y4, hy4, hyb4⟩ := hfb.2 4 (by show 4 < 6; decide)
  have hyc4 := hfcell _ _ hy4
  obtain ⟨y5, hy5, hyb5⟩ := hfb.2 5 (by show 5 < 6; decide)
  have hyc5 := hfcell _ _ hy5
  refine WL.step rfl (Stp.res rfl rfl (Res.move rfl rfl) ?_)
  refine WL.step rfl (Stp.res rfl rfl (Res.extract (l := [_, _]) rfl rfl rfl) ?_)
  refine WL.step rfl (Stp.res rfl rfl (Res.extract (l := [_, _]) rfl rfl rfl) ?_)
  refine WL.step rfl (Stp.res rfl rfl (Res.assign rfl rfl) ?_)
  refine WL.step rfl (Stp.res rfl rfl (Res.assign rfl rfl) ?_)
  refine WL.nil (Thn_n ?_)
  refine CW.seq ?_
  refine CW.seq ?_
  refine CW.region ?_
  refine WL.step rfl (Stp.res rfl rfl (Res.move rfl rfl) ?_)
  refine WL.step rfl (Stp.res rfl rfl (Res.neqNN rfl rfl underlying86) ?_)
  refine WL.nil (Thn_n ?_)
  refine CW.condF rfl ?_
  refine CW.skip (Thn_n ?_)
  refine CW.seq ?_
  refine CW.region ?_
  refine WL.step rfl (Stp.res rfl rfl (Res.move rfl rfl) ?_)
  refine WL.step rfl (Stp.res rfl rfl (Res.cast (Res.sliceLo (l := 2) rfl rfl rfl underlying94 sz30 (by show 2 ≤ 6; decide)) (v' := .slice (some ⟨fb, 2, none⟩) 4 (fc - 2)) (by rw [if_neg (by omega)]; rfl)) ?_)
  refine WL.step rfl (Stp.callG (args := [_]) rfl rfl rfl cal82 rfl rfl hS (numbers_ok fb 2 4 (fc - 2) [f, u, e, fl] (fun j => match j with | 0 => y2 | 1 => y3 | 2 => y4 | 3 => y5 | _ => .nilIface) _ _ hS.on rfl (by decide) (fun j hj => by rcases (by omega : j = 0 ∨ j = 1 ∨ j = 2 ∨ j = 3) with rfl | rfl | rfl | rfl <;> first | exact ⟨hyc2, hyb2⟩ | exact ⟨hyc3, hyb3⟩ | exact ⟨hyc4, hyb4⟩ | exact ⟨hyc5, hyb5⟩) (fun j => by rcases (by omega : j = 0 ∨ j = 1 ∨ j = 2 ∨ j = 3 ∨ 4 ≤ j) with rfl | rfl | rfl | rfl | hj <;> first | (show f ≤ _; omega) | (show u ≤ _; omega) | (show e ≤ _; omega) | (show fl ≤ _; omega) | (rw [List.getD_eq_getElem?_getD, List.getElem?_eq_none (by simpa using hj)]; decide))) ?_)
  rintro _ w M2 hS hG2 ⟨nb, nc, rfl, hnv⟩
  have hn0 := hnv 0 (by decide)
  have hn1 := hnv 1 (by decide)
  have hn2 := hnv 2 (by decide)
  have hn3 := hnv 3 (by decide)
  refine WL.step rfl (Stp.res rfl rfl (Res.move rfl rfl) ?_)
  refine WL.step rfl (Stp.res rfl rfl (Res.extract (l := [_, _]) rfl rfl rfl) ?_)
  refine WL.step rfl (Stp.res rfl rfl (Res.extract (l := [_, _]) rfl rfl rfl) ?_)
  refine WL.step rfl (Stp.res rfl rfl (Res.assign rfl rfl) ?_)
  refine WL.step rfl (Stp.res rfl rfl (Res.assign rfl rfl) ?_)
  refine WL.nil (Thn_n ?_)
  refine CW.seq ?_
  refine CW.seq ?_
  refine CW.region ?_
  refine WL.step rfl (Stp.res rfl rfl (Res.move rfl rfl) ?_)
  refine WL.step rfl (Stp.res rfl rfl (Res.neqNN rfl rfl underlying86) ?_)
  refine WL.nil (Thn_n ?_)
  refine CW.condF rfl ?_
  refine CW.skip (Thn_n ?_)
  refine CW.seq ?_
  have hS := hS.drew
  have hK0 := hS.on
  refine CW.held (fun w => On M2 w) mixed ?_
  refine AL.take 0 rfl (by kernel_rfl) (by kernel_rfl) (by kernel_rfl) rfl rfl rfl hK0 (fun w hK => Res.move rfl rfl) ?_
  refine AL.take 1 rfl (by kernel_rfl) (by kernel_rfl) (by kernel_rfl) rfl rfl rfl hK0 (fun w hK => Res.idxS1 (k := 0) rfl rfl rfl underlying94 sz30 rfl (by simp)) ?_
  refine AL.take 2 rfl (by kernel_rfl) (by kernel_rfl) (by kernel_rfl) rfl rfl rfl hK0 (fun w hK => Res.load1 (v := y0) rfl rfl underlying30 rfl (w := w) (hK.st.cell (PH.cell_mono hG2.1 hyc0))) ?_
  refine AL.take 3 rfl (by kernel_rfl) (by kernel_rfl) (by kernel_rfl) rfl rfl rfl hK0 (fun w hK => Res.b2s rfl rfl hK.st (hyb0.mono hG2.1) underlying30 underlying5 underlying9) ?_
  refine AL.take 4 rfl (by kernel_rfl) (by kernel_rfl) (by kernel_rfl) rfl rfl rfl hK0 (fun w hK => Res.move rfl rfl) ?_
  refine AL.take 5 rfl (by kernel_rfl) (by kernel_rfl) (by kernel_rfl) rfl rfl rfl hK0 (fun w hK => Res.idxS1 (k := 1) rfl rfl rfl underlying94 sz30 rfl (by simp)) ?_
  refine AL.take 6 rfl (by kernel_rfl) (by kernel_rfl) (by kernel_rfl) rfl rfl rfl hK0 (fun w hK => Res.load1 (v := y1) rfl rfl underlying30 rfl (w := w) (hK.st.cell (PH.cell_mono hG2.1 hyc1))) ?_
  refine AL.take 7 rfl (by kernel_rfl) (by kernel_rfl) (by kernel_rfl) rfl rfl rfl hK0 (fun w hK => Res.b2s rfl rfl hK.st (hyb1.mono hG2.1) underlying30 underlying5 underlying9) ?_
  refine AL.take 8 rfl (by kernel_rfl) (by kernel_rfl) (by kernel_rfl) rfl rfl rfl hK0 (fun w hK => Res.move rfl rfl) ?_
  refine AL.take 9 rfl (by kernel_rfl) (by kernel_rfl) (by kernel_rfl) rfl rfl rfl hK0 (fun w hK => Res.idxS1 (k := 0) rfl rfl rfl underlying117 sz3 rfl (by decide)) ?_
  refine AL.take 10 rfl (by kernel_rfl) (by kernel_rfl) (by kernel_rfl) rfl rfl rfl hK0 (fun w hK => Res.load1 (v := .int .i64 ((f : Nat) : Int)) rfl rfl underlying3 rfl (w := w) (hK.st.cell hn0)) ?_
  refine AL.take 11 rfl (by kernel_rfl) (by kernel_rfl) (by kernel_rfl) rfl rfl rfl hK0 (fun w hK => Res.move rfl rfl) ?_
  refine AL.take 12 rfl (by kernel_rfl) (by kernel_rfl) (by kernel_rfl) rfl rfl rfl hK0 (fun w hK => Res.idxS1 (k := 1) rfl rfl rfl underlying117 sz3 rfl (by decide)) ?_
  refine AL.take 13 rfl (by kernel_rfl) (by kernel_rfl) (by kernel_rfl) rfl rfl rfl hK0 (fun w hK => Res.load1 (v := .int .i64 ((u : Nat) : Int)) rfl rfl underlying3 rfl (w := w) (hK.st.cell hn1)) ?_
  refine AL.take 14 rfl (by kernel_rfl) (by kernel_rfl) (by kernel_rfl) rfl rfl rfl hK0 (fun w hK => Res.move rfl rfl) ?_
  refine AL.take 15 rfl (by kernel_rfl) (by kernel_rfl) (by kernel_rfl) rfl rfl rfl hK0 (fun w hK => Res.idxS1 (k := 2) rfl rfl rfl underlying117 sz3 rfl (by decide)) ?_
  refine AL.take 16 rfl (by kernel_rfl) (by kernel_rfl) (by kernel_rfl) rfl rfl rfl hK0 (fun w hK => Res.load1 (v := .int .i64 ((e : Nat) : Int)) rfl rfl underlying3 rfl (w := w) (hK.st.cell hn2)) ?_
  refine AL.take 17 rfl (by kernel_rfl) (by kernel_rfl) (by kernel_rfl) rfl rfl rfl hK0 (fun w hK => Res.move rfl rfl) ?_
  refine AL.take 18 rfl (by kernel_rfl) (by kernel_rfl) (by kernel_rfl) rfl rfl rfl hK0 (fun w hK => Res.idxS1 (k := 3) rfl rfl rfl underlying117 sz3 rfl (by decide)) ?_
  refine AL.take 19 rfl (by kernel_rfl) (by kernel_rfl) (by kernel_rfl) rfl rfl rfl hK0 (fun w hK => Res.load1 (v := .int .i64 ((fl : Nat) : Int)) rfl rfl underlying3 rfl (w := w) (hK.st.cell hn3)) ?_
  refine AL.take 20 rfl (by kernel_rfl) (by kernel_rfl) (by kernel_rfl) rfl rfl rfl hK0 (fun w hK => Res.build (vals := [(0, Go.E.str c), (1, Go.E.str s), (3, .int .i64 (f : Int)), (4, .int .i64 (u : Int)), (5, .int .i64 (e : Int)), (6, .int .i64 (fl : Int))]) (cs := #[Go.E.str c, Go.E.str s, .slice none 0 0, .int .i64 (f : Int), .int .i64 (u : Int), .int .i64 (e : Int), .int .i64 (fl : Int)]) rfl rfl (fun _ => by kernel_rfl)) ?_
  refine AL.one 21 rfl (by kernel_rfl) rfl (Stp.alloc (cs := #[Go.E.str [], Go.E.str [], .slice none 0 0, .int .i64 0, .int .i64 0, .int .i64 0, .int .i64 0]) rfl zTk rfl rfl rfl hS ?_)
  intro b7 w hb7 hS hkp hnw
  have hK0 := hS.on
  refine ⟨hK0, ?_⟩
  refine AL.one 22 rfl (by kernel_rfl) rfl (Stp.storeAll 0 rfl rfl rfl (sz57) one7 rfl hS rfl rfl ?_)
  intro w hS hpt
  have hK0 := hS.on
  refine ⟨hK0, ?_⟩
  refine AL.done (by kernel_rfl) (Thn_n ?_)
  refine CW.seq ?_
  refine CW.seq ?_
  refine CW.region ?_
  refine WL.step rfl (Stp.res rfl rfl (Res.loadAll (cs := #[Go.E.str c, Go.E.str s, .slice none 0 0, .int .i64 (f : Int), .int .i64 (u : Int), .int .i64 (e : Int), .int .i64 (fl : Int)]) rfl rfl underlying57 rfl (sz57) (hS.get (i := 0) rfl)) ?_)
  refine WL.step rfl (Stp.callG (args := [_]) rfl rfl rfl cal74 rfl rfl hS (tlook_ok c s _ f u e fl _ _ hS.on hc hs hf hu he hfu hfl) ?_)
  rintro _ w _ hS _ ⟨rfl, rfl⟩
  refine WL.step rfl (Stp.res rfl rfl (Res.assign rfl rfl) ?_)
  refine WL.nil (Thn_n ?_)
  refine CW.seq ?_
  refine CW.region ?_
  refine WL.step rfl (Stp.res rfl rfl (Res.move rfl rfl) ?_)
  refine WL.step rfl (Stp.res rfl rfl (Res.neqNN rfl rfl underlying86) ?_)
  refine WL.nil (Thn_n ?_)
  refine CW.condF rfl ?_
  refine CW.skip (Thn_n ?_)
  refine CW.seq ?_
  refine CW.region ?_
  refine WL.step rfl (Stp.res rfl rfl (Res.loadAll (cs := #[Go.E.str c, Go.E.str s, .slice none 0 0, .int .i64 (f : Int), .int .i64 (u : Int), .int .i64 (e : Int), .int .i64 (fl : Int)]) rfl rfl underlying57 rfl (sz57) (hS.get (i := 0) rfl)) ?_)
  refine WL.step rfl (Stp.storeAll 1 rfl rfl rfl (sz57) one7 rfl hS rfl rfl ?_)
  intro w hS hpt
  refine WL.step rfl (Stp.res rfl rfl (Res.assign rfl rfl) ?_)
  refine WL.nil (Thn_n ?_)
  refine CW.ret ?_
  exact fq_cell_tmp rfl rfl rfl (hS.get (i := 1) rfl) underlying57 rfl sz57 ⟨M, (((hS.drop (i := 0) rfl hb7).drop (i := 0) rfl hb2)).known (hG1.trans hG2).1, PH.le.refl _, Fresh.refl _ _, rfl, rfl⟩
end Go.Proofs.YtcmgimicdcchlaaGreatDoor
