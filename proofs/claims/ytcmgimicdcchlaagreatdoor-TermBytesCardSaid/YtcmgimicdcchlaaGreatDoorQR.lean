/- Lemmas on the way to the statement; no condition of its own. -/
import Derived.Test.YtcmgimicdcchlaaGreatDoorQE2
import Derived.Test.YtcmgimicdcchlaaGreatDoorQN
set_option linter.unusedVariables false
set_option maxRecDepth 20000
namespace Go.Proofs.YtcmgimicdcchlaaGreatDoor
open Go.Proofs.Tryz
open Go Go.E
theorem swap_cells {M : PH} {cs : Array Value} {f : Nat → List UInt8} {m : Nat} {y1 y2 : Value} {xs : List Value} (h1 : 1 < m) (hsz : m ≤ cs.size) (h : ∀ i, i < m → ∃ y, cs[i]? = some y ∧ Bs M y (f i)) (hy1 : xs[m - 1]? = some y1) (hb1 : Bs M y1 (f (m - 1))) (hy2 : xs[m - 2]? = some y2) (hb2 : Bs M y2 (f (m - 2))) :
    ∀ i, i < m → ∃ y, ((cs.setIfInBounds (m - 2) y1).setIfInBounds (m - 1) y2)[i]? = some y ∧ Bs M y (Seal.swapped f m i) := fun i hi => by
  rw [Seal.swapped, if_pos h1]
  by_cases e1 : i = m - 1
  · subst e1
    rw [if_neg (by omega), if_pos rfl]
    exact ⟨y2, by rw [Array.getElem?_setIfInBounds]; simp; omega, hb2⟩
  · by_cases e2 : i = m - 2
    · subst e2
      rw [if_pos rfl]
      exact ⟨y1, by rw [Array.getElem?_setIfInBounds, if_neg (by omega), Array.getElem?_setIfInBounds]; simp; omega, hb1⟩
    · rw [if_neg e2, if_neg e1]
      obtain ⟨y, q1, q2⟩ := h i hi
      exact ⟨y, by rw [Array.getElem?_setIfInBounds, if_neg (by omega), Array.getElem?_setIfInBounds, if_neg (by omega)]; exact q1, q2⟩
end Go.Proofs.YtcmgimicdcchlaaGreatDoor
set_option linter.unusedVariables false
set_option maxRecDepth 20000
namespace Go.Proofs.YtcmgimicdcchlaaGreatDoor
open Go.Proofs.Tryz
open Go Go.E
theorem qitoa_ok (n : Nat) (w0 : World) (M : PH) (hM : On M w0) (hn : n ≤ 1000000) (h0 : 0 < n) : Ok Tryz.prog 135 #[.int .i64 (n : Int)] w0 M (fun M' r => r = str (Lib.itoa (n : Int))) := by
  have hS := hM.st
  refine enterB (l := [.int .i64 (n : Int)]) 31 func135 rfl ntmps135 rfl ?_
  refine CW.seq ?_
  refine CW.region ?_
  refine WL.step rfl (Stp.res rfl rfl (Res.assign rfl rfl) ?_)
  refine WL.nil (Thn_n ?_)
  refine CW.seq ?_
  refine CW.seq ?_
  refine CW.region ?_
  refine WL.step rfl (Stp.res rfl rfl (Res.move rfl rfl) ?_)
  refine WL.step rfl (Stp.res rfl rfl (Res.eql rfl rfl rfl) ?_)
  refine WL.nil (Thn_n ?_)
  refine CW.iteF rfl (by omega) ?_
  refine CW.skip (Thn_n ?_)
  refine CW.seq ?_
  refine CW.region ?_
  refine WL.step rfl (Stp.res rfl rfl (Res.move rfl rfl) ?_)
  refine WL.step rfl (Stp.res rfl rfl (Res.assign rfl rfl) ?_)
  refine WL.step rfl (Stp.res rfl rfl (Res.assign rfl rfl) ?_)
  refine WL.nil (Thn_n ?_)
  refine CW.seq ?_
  refine CW.block ?_
  refine CW.loop (σ := Nat × List UInt8 × PH) (fun s => [(0, .int .i64 (n : Int)), (3, Go.E.str s.2.1), (4, .int .i64 (s.1 : Int))])
    (fun s w' => Grow w0.heap.size M s.2.2 ∧ St w0 w' s.2.2 [] ∧ Seal.pre n = Seal.pre s.1 ++ s.2.1 ∧ s.1 + s.2.1.length ≤ n) (fun s => s.1) (n, [], M) ⟨rfl, rfl, rfl, trivial⟩ ⟨Grow.refl _ _, hS, by simp, by simp⟩ ?_
  rintro ⟨x, s, MJ⟩ w1 ⟨hGJ, hS, hpr, hle⟩
  dsimp only at hGJ hS hpr hle ⊢
  refine CW.seq ?_
  refine CW.seq ?_
  refine CW.region ?_
  refine WL.step rfl (Stp.res rfl rfl (Res.move rfl rfl) ?_)
  refine WL.step rfl (Stp.res rfl rfl (Res.neq rfl rfl rfl) ?_)
  refine WL.nil (Thn_n ?_)
  refine CW.ite rfl (fun h => ?_) (fun h => ?_)
  · have hx : 0 < x := by omega
    refine CW.skip (Thn_n ?_)
    refine CW.block ?_
    refine CW.seq ?_
    refine CW.region ?_
    refine WL.step rfl (Stp.res rfl rfl (Res.move rfl rfl) ?_)
    refine WL.step rfl (Stp.res rfl rfl (Res.cast (Res.rem rfl rfl rfl (by omega)) (v' := .int .i64 ((x % 10 : Nat) : Int)) (by congr 1)) ?_)
    refine WL.step rfl (Stp.res rfl rfl (Res.assign rfl rfl) ?_)
    refine WL.nil (Thn_n ?_)
    refine CW.seq ?_
    refine CW.seq ?_
    refine CW.region ?_
    refine WL.step rfl (Stp.res rfl rfl (Res.move rfl rfl) ?_)
    refine WL.step rfl (Stp.res rfl rfl (Res.lss rfl rfl rfl) ?_)
    refine WL.nil (Thn_n ?_)
    refine CW.iteF rfl (by omega) ?_
    refine CW.skip (Thn_n ?_)
    refine CW.seq ?_
    refine CW.region ?_
    refine WL.step rfl (Stp.res rfl rfl (Res.move rfl rfl) ?_)
    refine WL.step rfl (Stp.res rfl rfl (Res.cast (Res.add rfl rfl rfl (by omega)) (v' := .int .i64 ((48 + x % 10 : Nat) : Int)) (by congr 1)) ?_)
    refine WL.step rfl (Stp.res rfl rfl (Res.convB (k := 48 + x % 10) rfl rfl underlying3 underlying5) ?_)
    refine WL.step rfl (Stp.lit (vals := [(0, byte (UInt8.ofNat (48 + x % 10)))]) (cs := bs [(UInt8.ofNat (48 + x % 10))]) (e := 5) rfl rfl (fun _ => by kernel_rfl) rfl rfl hS ?_)
    intro b20 w hb20 hS hkp hnw
    have hF := hS.freezeG (i := 0) rfl hb20
    obtain ⟨M2, hG2, hone, hS⟩ : ∃ M2, Grow w0.heap.size MJ M2 ∧ Bs M2 (.slice (some ⟨b20, 0, none⟩) 1 1) [UInt8.ofNat (48 + x % 10)] ∧ St w0 w M2 [] := ⟨_, hF.2, Bs.of' (PH.add_self _ _ _) rfl (by decide), hF.1⟩
    refine WL.step rfl (Stp.res rfl rfl (Res.b2s rfl rfl hS hone underlying30 underlying5 underlying9) ?_)
    refine WL.step rfl (Stp.res rfl rfl (Res.move rfl rfl) ?_)
    refine WL.step rfl (Stp.res rfl rfl (Res.addS (a := [UInt8.ofNat (48 + x % 10)]) (b := s) (by simp; omega) rfl rfl rfl) ?_)
    refine WL.step rfl (Stp.res rfl rfl (Res.assign rfl rfl) ?_)
    refine WL.nil (Thn_n ?_)
    refine CW.region ?_
    refine WL.step rfl (Stp.res rfl rfl (Res.move rfl rfl) ?_)
    refine WL.step rfl (Stp.res rfl rfl (Res.cast (Res.quo rfl rfl rfl (by omega)) (v' := .int .i64 ((x / 10 : Nat) : Int)) (by congr 1)) ?_)
    refine WL.step rfl (Stp.res rfl rfl (Res.assign rfl rfl) ?_)
    refine WL.nil (Blk_n (Thn_n ?_))
    exact ⟨(x / 10, [UInt8.ofNat (48 + x % 10)] ++ s, M2), ⟨rfl, rfl, rfl, trivial⟩, ⟨hGJ.trans hG2, hS, by dsimp only; rw [hpr, Seal.pre_step hx, List.append_assoc], by simp; omega⟩, by dsimp only; omega⟩
  · obtain rfl : x = 0 := by omega
    refine CW.exit (Thn_x (Thn_x (Blk_x (Thn_n ?_))))
    refine CW.seq ?_
    refine CW.seq ?_
    refine CW.region ?_
    refine WL.step rfl (Stp.res rfl rfl (Res.move rfl rfl) ?_)
    refine WL.step rfl (Stp.res rfl rfl (Res.lss rfl rfl rfl) ?_)
    refine WL.nil (Thn_n ?_)
    refine CW.iteF rfl (by omega) ?_
    refine CW.skip (Thn_n ?_)
    refine CW.seq ?_
    refine CW.region ?_
    refine WL.step rfl (Stp.res rfl rfl (Res.move rfl rfl) ?_)
    refine WL.step rfl (Stp.res rfl rfl (Res.assign rfl rfl) ?_)
    refine WL.nil (Thn_n ?_)
    refine CW.ret ?_
    have e0 : Lib.itoa (n : Int) = s := by
      rw [Lib.itoa, if_neg (by omega), Int.toNat_natCast]
      have h1 : Seal.pre n = Lib.decDigits n := by rw [Seal.pre, if_neg (by omega)]
      have h2 : Seal.pre 0 = [] := rfl
      rw [← h1, hpr, h2, List.nil_append]
    exact fq_tmp rfl rfl ⟨MJ, hS, hGJ.1, hGJ.2, by rw [e0]⟩
theorem qitoa_0  (w0 : World) (M : PH) (hM : On M w0)  : Ok Tryz.prog 135 #[.int .i64 0] w0 M (fun M' r => r = str (Lib.itoa 0)) := by
  have hS := hM.st
  refine enterB (l := [.int .i64 0]) 31 func135 rfl ntmps135 rfl ?_
  refine CW.seq ?_
  refine CW.region ?_
  refine WL.step rfl (Stp.res rfl rfl (Res.assign rfl rfl) ?_)
  refine WL.nil (Thn_n ?_)
  refine CW.seq ?_
  refine CW.seq ?_
  refine CW.region ?_
  refine WL.step rfl (Stp.res rfl rfl (Res.move rfl rfl) ?_)
  refine WL.step rfl (Stp.res rfl rfl (Res.eql rfl rfl rfl) ?_)
  refine WL.nil (Thn_n ?_)
  refine CW.iteT rfl (by omega) ?_
  refine CW.seq ?_
  refine CW.region ?_
  refine WL.step rfl (Stp.res rfl rfl (Res.assign rfl rfl) ?_)
  refine WL.nil (Thn_n ?_)
  refine CW.ret (Thn_r ?_)
  exact fq_tmp rfl rfl ⟨M, hS, PH.le.refl _, Fresh.refl _ _, by rw [Lib.itoa, if_neg (by omega), Lib.decDigits]; rfl⟩
theorem qitoa_all (u : Int) (w0 : World) (M : PH) (hM : On M w0) (h0 : 0 ≤ u) (h1 : u ≤ 1000000) : Ok Tryz.prog 135 #[.int .i64 u] w0 M (fun M' r => r = str (Lib.itoa u)) := by
  obtain ⟨n, rfl⟩ := Int.eq_ofNat_of_zero_le h0
  by_cases hz : n = 0
  · subst hz; exact qitoa_0 w0 M hM
  · exact qitoa_ok n w0 M hM (by omega) (by omega)
end Go.Proofs.YtcmgimicdcchlaaGreatDoor
set_option linter.unusedVariables false
set_option maxRecDepth 20000
namespace Go.Proofs.YtcmgimicdcchlaaGreatDoor
open Go.Proofs.Tryz
open Go Go.E
theorem qkeys_no1 (kv : Value) (key : List UInt8) (use : Int) (w0 : World) (M : PH) (hM : On M w0) (hkey : Bs M kv key) (hk : ¬ key.length = 16) : Ok Tryz.prog 95 #[kv, .int .i64 use] w0 M (fun M' r => M = M' ∧ r = .tuple #[.slice none 0 0, .slice none 0 0, .int .i64 2]) := by
  have hS := hM.st
  have hkey0 := hkey
  obtain ⟨ka, kc, rfl, k1, k2, k3, k4⟩ := hkey
  refine enterB (l := [.slice ka key.length kc, .int .i64 use]) 40 func95 rfl ntmps95 rfl ?_
  refine CW.seq ?_
  refine CW.region ?_
  refine WL.step rfl (Stp.res rfl rfl (Res.assign rfl rfl) ?_)
  refine WL.step rfl (Stp.res rfl rfl (Res.assign rfl rfl) ?_)
  refine WL.step rfl (Stp.res rfl rfl (Res.assign rfl rfl) ?_)
  refine WL.nil (Thn_n ?_)
  refine CW.seq ?_
  refine CW.seq ?_
  refine CW.region ?_
  refine WL.step rfl (Stp.res rfl rfl (Res.move rfl rfl) ?_)
  refine WL.step rfl (Stp.res rfl rfl (Res.len rfl rfl rfl rfl underlying30) ?_)
  refine WL.step rfl (Stp.res rfl rfl (Res.to (Res.neq rfl rfl rfl) (by omega)) ?_)
  refine WL.step rfl (Stp.res rfl rfl (Res.move rfl rfl) ?_)
  refine WL.skipG 3 false rfl rfl rfl rfl rfl rfl ?_
  refine WL.skipG 3 false rfl rfl rfl rfl rfl rfl ?_
  refine WL.step rfl (Stp.res rfl rfl (Res.pickT rfl rfl rfl) ?_)
  refine WL.step rfl (Stp.res rfl rfl (Res.move rfl rfl) ?_)
  refine WL.skipG 7 false rfl rfl rfl rfl rfl rfl ?_
  refine WL.skipG 7 false rfl rfl rfl rfl rfl rfl ?_
  refine WL.step rfl (Stp.res rfl rfl (Res.pickT rfl rfl rfl) ?_)
  refine WL.nil (Thn_n ?_)
  refine CW.condT rfl ?_
  refine CW.seq ?_
  refine CW.region ?_
  refine WL.step rfl (Stp.res rfl rfl (Res.assign rfl rfl) ?_)
  refine WL.step rfl (Stp.res rfl rfl (Res.assign rfl rfl) ?_)
  refine WL.step rfl (Stp.res rfl rfl (Res.assign rfl rfl) ?_)
  refine WL.nil (Thn_n ?_)
  refine CW.ret (Thn_r ?_)
  exact fq_tmp3 rfl rfl rfl rfl ⟨M, hS, PH.le.refl _, Fresh.refl _ _, rfl, rfl⟩
theorem qkeys_no2 (kv : Value) (key : List UInt8) (use : Int) (w0 : World) (M : PH) (hM : On M w0) (hkey : Bs M kv key) (hk : key.length = 16) (h0 : use < 0) : Ok Tryz.prog 95 #[kv, .int .i64 use] w0 M (fun M' r => M = M' ∧ r = .tuple #[.slice none 0 0, .slice none 0 0, .int .i64 2]) := by
  have hS := hM.st
  have hkey0 := hkey
  obtain ⟨ka, kc, rfl, k1, k2, k3, k4⟩ := hkey
  refine enterB (l := [.slice ka key.length kc, .int .i64 use]) 40 func95 rfl ntmps95 rfl ?_
  refine CW.seq ?_
  refine CW.region ?_
  refine WL.step rfl (Stp.res rfl rfl (Res.assign rfl rfl) ?_)
  refine WL.step rfl (Stp.res rfl rfl (Res.assign rfl rfl) ?_)
  refine WL.step rfl (Stp.res rfl rfl (Res.assign rfl rfl) ?_)
  refine WL.nil (Thn_n ?_)
  refine CW.seq ?_
  refine CW.seq ?_
  refine CW.region ?_
  refine WL.step rfl (Stp.res rfl rfl (Res.move rfl rfl) ?_)
  refine WL.step rfl (Stp.res rfl rfl (Res.len rfl rfl rfl rfl underlying30) ?_)
  refine WL.step rfl (Stp.res rfl rfl (Res.toF (Res.neq rfl rfl rfl) (by omega)) ?_)
  refine WL.step rfl (Stp.res rfl rfl (Res.move rfl rfl) ?_)
  refine WL.stepG 3 false rfl rfl rfl rfl (Stp.res rfl rfl (Res.move rfl rfl) ?_)
  refine WL.stepG 3 false rfl rfl rfl rfl (Stp.res rfl rfl (Res.to (Res.lss rfl rfl rfl) (by omega)) ?_)
  refine WL.step rfl (Stp.res rfl rfl (Res.pickF rfl rfl rfl) ?_)
  refine WL.step rfl (Stp.res rfl rfl (Res.move rfl rfl) ?_)
  refine WL.skipG 7 false rfl rfl rfl rfl rfl rfl ?_
  refine WL.skipG 7 false rfl rfl rfl rfl rfl rfl ?_
  refine WL.step rfl (Stp.res rfl rfl (Res.pickT rfl rfl rfl) ?_)
  refine WL.nil (Thn_n ?_)
  refine CW.condT rfl ?_
  refine CW.seq ?_
  refine CW.region ?_
  refine WL.step rfl (Stp.res rfl rfl (Res.assign rfl rfl) ?_)
  refine WL.step rfl (Stp.res rfl rfl (Res.assign rfl rfl) ?_)
  refine WL.step rfl (Stp.res rfl rfl (Res.assign rfl rfl) ?_)
  refine WL.nil (Thn_n ?_)
  refine CW.ret (Thn_r ?_)
  exact fq_tmp3 rfl rfl rfl rfl ⟨M, hS, PH.le.refl _, Fresh.refl _ _, rfl, rfl⟩
theorem qkeys_no3 (kv : Value) (key : List UInt8) (use : Int) (w0 : World) (M : PH) (hM : On M w0) (hkey : Bs M kv key) (hk : key.length = 16) (h0 : 0 ≤ use) (h1 : 256 ≤ use) : Ok Tryz.prog 95 #[kv, .int .i64 use] w0 M (fun M' r => M = M' ∧ r = .tuple #[.slice none 0 0, .slice none 0 0, .int .i64 2]) := by
  have hS := hM.st
  have hkey0 := hkey
  obtain ⟨ka, kc, rfl, k1, k2, k3, k4⟩ := hkey
  refine enterB (l := [.slice ka key.length kc, .int .i64 use]) 40 func95 rfl ntmps95 rfl ?_
  refine CW.seq ?_
  refine CW.region ?_
  refine WL.step rfl (Stp.res rfl rfl (Res.assign rfl rfl) ?_)
  refine WL.step rfl (Stp.res rfl rfl (Res.assign rfl rfl) ?_)
  refine WL.step rfl (Stp.res rfl rfl (Res.assign rfl rfl) ?_)
  refine WL.nil (Thn_n ?_)
  refine CW.seq ?_
  refine CW.seq ?_
  refine CW.region ?_
  refine WL.step rfl (Stp.res rfl rfl (Res.move rfl rfl) ?_)
  refine WL.step rfl (Stp.res rfl rfl (Res.len rfl rfl rfl rfl underlying30) ?_)
  refine WL.step rfl (Stp.res rfl rfl (Res.toF (Res.neq rfl rfl rfl) (by omega)) ?_)
  refine WL.step rfl (Stp.res rfl rfl (Res.move rfl rfl) ?_)
  refine WL.stepG 3 false rfl rfl rfl rfl (Stp.res rfl rfl (Res.move rfl rfl) ?_)
  refine WL.stepG 3 false rfl rfl rfl rfl (Stp.res rfl rfl (Res.toF (Res.lss rfl rfl rfl) (by omega)) ?_)
  refine WL.step rfl (Stp.res rfl rfl (Res.pickF rfl rfl rfl) ?_)
  refine WL.step rfl (Stp.res rfl rfl (Res.move rfl rfl) ?_)
  refine WL.stepG 7 false rfl rfl rfl rfl (Stp.res rfl rfl (Res.move rfl rfl) ?_)
  refine WL.stepG 7 false rfl rfl rfl rfl (Stp.res rfl rfl (Res.to (Res.gtr rfl rfl rfl) (by omega)) ?_)
  refine WL.step rfl (Stp.res rfl rfl (Res.pickF rfl rfl rfl) ?_)
  refine WL.nil (Thn_n ?_)
  refine CW.condT rfl ?_
  refine CW.seq ?_
  refine CW.region ?_
  refine WL.step rfl (Stp.res rfl rfl (Res.assign rfl rfl) ?_)
  refine WL.step rfl (Stp.res rfl rfl (Res.assign rfl rfl) ?_)
  refine WL.step rfl (Stp.res rfl rfl (Res.assign rfl rfl) ?_)
  refine WL.nil (Thn_n ?_)
  refine CW.ret (Thn_r ?_)
  exact fq_tmp3 rfl rfl rfl rfl ⟨M, hS, PH.le.refl _, Fresh.refl _ _, rfl, rfl⟩
theorem qkeys_no (kv : Value) (key : List UInt8) (use : Int) (w0 : World) (M : PH) (hM : On M w0) (hkey : Bs M kv key) (hg : ¬ Seal.Good key use) : Ok Tryz.prog 95 #[kv, .int .i64 use] w0 M (fun M' r => M = M' ∧ r = .tuple #[.slice none 0 0, .slice none 0 0, .int .i64 2]) := by
  by_cases h1 : key.length = 16
  · by_cases h2 : use < 0
    · exact qkeys_no2 kv key use w0 M hM hkey h1 h2
    · by_cases h3 : 256 ≤ use
      · exact qkeys_no3 kv key use w0 M hM hkey h1 (by omega) h3
      · exact absurd ⟨h1, by omega, by omega⟩ hg
  · exact qkeys_no1 kv key use w0 M hM hkey h1
theorem qkeys_yes (kv : Value) (key : List UInt8) (use : Int) (w0 : World) (M : PH) (hM : On M w0) (hkey : Bs M kv key) (hg : Seal.Good key use) : Ok Tryz.prog 95 #[kv, .int .i64 use] w0 M (fun M' r => ∃ s t, r = .tuple #[s, t, .int .i64 0] ∧ Bs M' s (Seal.ek key use) ∧ Bs M' t (Seal.ik key use)) := by
  have hS := hM.st
  have hkey0 := hkey
  obtain ⟨ka, kc, rfl, k1, k2, k3, k4⟩ := hkey
  obtain ⟨hk, h0, h1⟩ := hg
  have hil := itoa_len h0 h1
  refine enterB (l := [.slice ka key.length kc, .int .i64 use]) 40 func95 rfl ntmps95 rfl ?_
  refine CW.seq ?_
  refine CW.region ?_
  refine WL.step rfl (Stp.res rfl rfl (Res.assign rfl rfl) ?_)
  refine WL.step rfl (Stp.res rfl rfl (Res.assign rfl rfl) ?_)
  refine WL.step rfl (Stp.res rfl rfl (Res.assign rfl rfl) ?_)
  refine WL.nil (Thn_n ?_)
  refine CW.seq ?_
  refine CW.seq ?_
  refine CW.region ?_
  refine WL.step rfl (Stp.res rfl rfl (Res.move rfl rfl) ?_)
  refine WL.step rfl (Stp.res rfl rfl (Res.len rfl rfl rfl rfl underlying30) ?_)
  refine WL.step rfl (Stp.res rfl rfl (Res.toF (Res.neq rfl rfl rfl) (by omega)) ?_)
  refine WL.step rfl (Stp.res rfl rfl (Res.move rfl rfl) ?_)
  refine WL.stepG 3 false rfl rfl rfl rfl (Stp.res rfl rfl (Res.move rfl rfl) ?_)
  refine WL.stepG 3 false rfl rfl rfl rfl (Stp.res rfl rfl (Res.toF (Res.lss rfl rfl rfl) (by omega)) ?_)
  refine WL.step rfl (Stp.res rfl rfl (Res.pickF rfl rfl rfl) ?_)
  refine WL.step rfl (Stp.res rfl rfl (Res.move rfl rfl) ?_)
  refine WL.stepG 7 false rfl rfl rfl rfl (Stp.res rfl rfl (Res.move rfl rfl) ?_)
  refine WL.stepG 7 false rfl rfl rfl rfl (Stp.res rfl rfl (Res.toF (Res.gtr rfl rfl rfl) (by omega)) ?_)
  refine WL.step rfl (Stp.res rfl rfl (Res.pickF rfl rfl rfl) ?_)
  refine WL.nil (Thn_n ?_)
  refine CW.condF rfl ?_
  refine CW.skip (Thn_n ?_)
  refine CW.seq ?_
  refine CW.region ?_
  refine WL.step rfl (Stp.res rfl rfl (Res.move rfl rfl) ?_)
  refine WL.step rfl (Stp.res rfl rfl (Res.move rfl rfl) ?_)
  refine WL.step rfl (Stp.callG (args := [_]) rfl rfl rfl cal135 rfl rfl hS (qitoa_all use _ _ hS.on (by omega) (by omega)) ?_)
  rintro _ w MI1 hS hGI1 rfl
  refine WL.step rfl (Stp.res rfl rfl (Res.addS (a := [101]) (by simp; omega) rfl rfl rfl) ?_)
  refine WL.step rfl (Stp.callG (args := [_, _, _]) rfl rfl rfl cal110 rfl rfl hS (qexpand_ok _ key ([101] ++ Lib.itoa use) 16 _ _ hS.on (hkey0.mono hGI1.1) (by omega) (by simp; omega) (by decide)) ?_)
  rintro _ w M1 hS hG1 ⟨s, rfl, hs⟩
  refine WL.step rfl (Stp.res rfl rfl (Res.move rfl rfl) ?_)
  refine WL.step rfl (Stp.res rfl rfl (Res.extract (l := [_, _]) rfl rfl rfl) ?_)
  refine WL.step rfl (Stp.res rfl rfl (Res.extract (l := [_, _]) rfl rfl rfl) ?_)
  refine WL.step rfl (Stp.res rfl rfl (Res.assign rfl rfl) ?_)
  refine WL.step rfl (Stp.res rfl rfl (Res.assign rfl rfl) ?_)
  refine WL.nil (Thn_n ?_)
  refine CW.seq ?_
  refine CW.region ?_
  refine WL.step rfl (Stp.res rfl rfl (Res.move rfl rfl) ?_)
  refine WL.step rfl (Stp.res rfl rfl (Res.move rfl rfl) ?_)
  refine WL.step rfl (Stp.callG (args := [_]) rfl rfl rfl cal135 rfl rfl hS (qitoa_all use _ _ hS.on (by omega) (by omega)) ?_)
  rintro _ w MI2 hS hGI2 rfl
  refine WL.step rfl (Stp.res rfl rfl (Res.addS (a := [105]) (by simp; omega) rfl rfl rfl) ?_)
  refine WL.step rfl (Stp.callG (args := [_, _, _]) rfl rfl rfl cal110 rfl rfl hS (qexpand_ok _ key ([105] ++ Lib.itoa use) 16 _ _ hS.on (hkey0.mono ((hGI1.trans hG1).trans hGI2).1) (by omega) (by simp; omega) (by decide)) ?_)
  rintro _ w M2 hS hG2 ⟨t, rfl, ht⟩
  refine WL.step rfl (Stp.res rfl rfl (Res.move rfl rfl) ?_)
  refine WL.step rfl (Stp.res rfl rfl (Res.extract (l := [_, _]) rfl rfl rfl) ?_)
  refine WL.step rfl (Stp.res rfl rfl (Res.extract (l := [_, _]) rfl rfl rfl) ?_)
  refine WL.step rfl (Stp.res rfl rfl (Res.assign rfl rfl) ?_)
  refine WL.step rfl (Stp.res rfl rfl (Res.assign rfl rfl) ?_)
  refine WL.nil (Thn_n ?_)
  refine CW.seq ?_
  refine CW.region ?_
  refine WL.step rfl (Stp.res rfl rfl (Res.move rfl rfl) ?_)
  refine WL.step rfl (Stp.res rfl rfl (Res.move rfl rfl) ?_)
  refine WL.step rfl (Stp.res rfl rfl (Res.assign rfl rfl) ?_)
  refine WL.step rfl (Stp.res rfl rfl (Res.assign rfl rfl) ?_)
  refine WL.step rfl (Stp.res rfl rfl (Res.assign rfl rfl) ?_)
  refine WL.nil (Thn_n ?_)
  refine CW.ret ?_
  exact fq_tmp3 rfl rfl rfl rfl ⟨M2, hS, ((((hGI1.trans hG1).trans hGI2).trans hG2)).1, ((((hGI1.trans hG1).trans hGI2).trans hG2)).2, _, _, rfl, hs.mono (hGI2.trans hG2).1, ht⟩
end Go.Proofs.YtcmgimicdcchlaaGreatDoor
set_option linter.unusedVariables false
set_option maxRecDepth 20000
namespace Go.Proofs.YtcmgimicdcchlaaGreatDoor
open Go.Proofs.Tryz
open Go Go.E
theorem qtag_no (kv v : Value) (key b : List UInt8) (use : Int) (w0 : World) (M : PH) (hM : On M w0) (hkey : Bs M kv key) (hb : Bs M v b) (hg : ¬ Seal.Good key use) : Ok Tryz.prog 96 #[kv, .int .i64 use, v] w0 M (fun M' r => ∃ s, r = .tuple #[s, .int .i64 (Seal.tagR key use b).2] ∧ Bs M' s (Seal.tagR key use b).1) := by
  have hS := hM.st
  have hb0 := hb
  obtain ⟨va, vc, rfl, v1, v2, v3, v4⟩ := hb
  refine enterB (l := [kv, .int .i64 use, .slice va b.length vc]) 30 func96 rfl ntmps96 rfl ?_
  refine CW.seq ?_
  refine CW.region ?_
  refine WL.step rfl (Stp.res rfl rfl (Res.assign rfl rfl) ?_)
  refine WL.step rfl (Stp.res rfl rfl (Res.assign rfl rfl) ?_)
  refine WL.nil (Thn_n ?_)
  refine CW.seq ?_
  refine CW.region ?_
  refine WL.step rfl (Stp.res rfl rfl (Res.move rfl rfl) ?_)
  refine WL.step rfl (Stp.res rfl rfl (Res.move rfl rfl) ?_)
  refine WL.step rfl (Stp.callG (args := [_, _]) rfl rfl rfl cal95 rfl rfl hS (qkeys_no _ key use _ _ hS.on hkey hg) ?_)
  rintro _ w _ hS _ ⟨rfl, rfl⟩
  refine WL.step rfl (Stp.res rfl rfl (Res.move rfl rfl) ?_)
  refine WL.step rfl (Stp.res rfl rfl (Res.extract (l := [_, _, _]) rfl rfl rfl) ?_)
  refine WL.step rfl (Stp.res rfl rfl (Res.extract (l := [_, _, _]) rfl rfl rfl) ?_)
  refine WL.step rfl (Stp.res rfl rfl (Res.extract (l := [_, _, _]) rfl rfl rfl) ?_)
  refine WL.step rfl (Stp.res rfl rfl (Res.assign rfl rfl) ?_)
  refine WL.step rfl (Stp.res rfl rfl (Res.assign rfl rfl) ?_)
  refine WL.step rfl (Stp.res rfl rfl (Res.assign rfl rfl) ?_)
  refine WL.nil (Thn_n ?_)
  refine CW.seq ?_
  refine CW.seq ?_
  refine CW.region ?_
  refine WL.step rfl (Stp.res rfl rfl (Res.move rfl rfl) ?_)
  refine WL.step rfl (Stp.res rfl rfl (Res.neq rfl rfl rfl) ?_)
  refine WL.nil (Thn_n ?_)
  refine CW.iteT rfl (by omega) ?_
  refine CW.seq ?_
  refine CW.region ?_
  refine WL.step rfl (Stp.res rfl rfl (Res.move rfl rfl) ?_)
  refine WL.step rfl (Stp.res rfl rfl (Res.assign rfl rfl) ?_)
  refine WL.step rfl (Stp.res rfl rfl (Res.assign rfl rfl) ?_)
  refine WL.nil (Thn_n ?_)
  refine CW.ret (Thn_r ?_)
  exact fq_tmp2 rfl rfl rfl ⟨M, hS, PH.le.refl _, Fresh.refl _ _, _, by rw [Seal.tagR, if_neg hg], by rw [Seal.tagR, if_neg hg]; exact Bs.nil _⟩
theorem qtag_yes (kv v : Value) (key b : List UInt8) (use : Int) (w0 : World) (M : PH) (hM : On M w0) (hkey : Bs M kv key) (hb : Bs M v b) (hg : Seal.Good key use) (hlen : b.length ≤ 1000000) : Ok Tryz.prog 96 #[kv, .int .i64 use, v] w0 M (fun M' r => ∃ s, r = .tuple #[s, .int .i64 (Seal.tagR key use b).2] ∧ Bs M' s (Seal.tagR key use b).1) := by
  have hS := hM.st
  have hb0 := hb
  obtain ⟨va, vc, rfl, v1, v2, v3, v4⟩ := hb
  refine enterB (l := [kv, .int .i64 use, .slice va b.length vc]) 30 func96 rfl ntmps96 rfl ?_
  refine CW.seq ?_
  refine CW.region ?_
  refine WL.step rfl (Stp.res rfl rfl (Res.assign rfl rfl) ?_)
  refine WL.step rfl (Stp.res rfl rfl (Res.assign rfl rfl) ?_)
  refine WL.nil (Thn_n ?_)
  refine CW.seq ?_
  refine CW.region ?_
  refine WL.step rfl (Stp.res rfl rfl (Res.move rfl rfl) ?_)
  refine WL.step rfl (Stp.res rfl rfl (Res.move rfl rfl) ?_)
  refine WL.step rfl (Stp.callG (args := [_, _]) rfl rfl rfl cal95 rfl rfl hS (qkeys_yes _ key use _ _ hS.on hkey hg) ?_)
  rintro _ w M1 hS hG1 ⟨s, t, rfl, hs, ht⟩
  refine WL.step rfl (Stp.res rfl rfl (Res.move rfl rfl) ?_)
  refine WL.step rfl (Stp.res rfl rfl (Res.extract (l := [_, _, _]) rfl rfl rfl) ?_)
  refine WL.step rfl (Stp.res rfl rfl (Res.extract (l := [_, _, _]) rfl rfl rfl) ?_)
  refine WL.step rfl (Stp.res rfl rfl (Res.extract (l := [_, _, _]) rfl rfl rfl) ?_)
  refine WL.step rfl (Stp.res rfl rfl (Res.assign rfl rfl) ?_)
  refine WL.step rfl (Stp.res rfl rfl (Res.assign rfl rfl) ?_)
  refine WL.step rfl (Stp.res rfl rfl (Res.assign rfl rfl) ?_)
  refine WL.nil (Thn_n ?_)
  refine CW.seq ?_
  refine CW.seq ?_
  refine CW.region ?_
  refine WL.step rfl (Stp.res rfl rfl (Res.move rfl rfl) ?_)
  refine WL.step rfl (Stp.res rfl rfl (Res.neq rfl rfl rfl) ?_)
  refine WL.nil (Thn_n ?_)
  refine CW.iteF rfl (by omega) ?_
  refine CW.skip (Thn_n ?_)
  refine CW.seq ?_
  refine CW.region ?_
  refine WL.step rfl (Stp.res rfl rfl (Res.move rfl rfl) ?_)
  refine WL.step rfl (Stp.makeB (k := 16) (c := 16) rfl rfl rfl et30 ⟨Nat.le_refl 16, by decide⟩ rfl rfl hS ?_)
  intro b23 w hb23 hS hkp hnw
  refine WL.step rfl (Stp.res rfl rfl (Res.move rfl rfl) ?_)
  refine WL.step rfl (Stp.appendB (l := List.replicate 16 0) (r := b) rfl rfl rfl rfl et30 (Src.ofBs underlying30 hS (hb0.mono hG1.1)) hS (OwnB.of hb23 (Nat.le_refl 16) (by omega) (List.replicate 16 0) (List.length_replicate ..) (by simp)) (by simp; omega) rfl rfl ?_)
  intro v2 w g2 hS hown
  obtain ⟨M2, hS, hle2, hfr2, hmsg⟩ := hown.give hS
  have hG2 : Grow w0.heap.size M1 M2 := ⟨hle2, hfr2⟩
  refine WL.step rfl (Stp.callG (args := [_, _]) rfl rfl rfl cal109 rfl rfl hS (qmac_ok _ _ (Seal.ik key use) (List.replicate 16 0 ++ b) _ _ hS.on (ht.mono hG2.1) hmsg (by rw [Seal.ik_length]; omega) (by simp; omega)) ?_)
  rintro _ w _ hS _ ⟨rfl, rfl⟩
  refine WL.step rfl (Stp.alloc (cs := bs (List.replicate 32 0)) rfl z143 rfl rfl rfl hS ?_)
  intro b11 w hb11 hS hkp hnw
  refine WL.step rfl (Stp.storeAllB 0 rfl rfl rfl sz143 rfl hS rfl ⟨List.length_replicate .., Mac.sum_length _ _⟩ ?_)
  intro w hS hpt
  refine WL.nil (Thn_n ?_)
  refine CW.seq ?_
  have hF := hS.freezeG (i := 0) rfl hb11
  obtain ⟨M3, hG3, hdg, hS⟩ : ∃ M3, Grow w0.heap.size M2 M3 ∧ Bs M3 (.slice (some ⟨b11, 0, none⟩) 16 32) (Seal.tag (Seal.ik key use) b) ∧ St w0 w M3 [] := ⟨_, hF.2, (Bs.of' (k := 32) (PH.add_self _ _ _) (Mac.sum_length _ _) (by omega)).take (by rw [Mac.sum_length]; omega), hF.1⟩
  refine CW.region ?_
  refine WL.step rfl (Stp.lit (vals := []) (cs := bs []) (e := 5) rfl rfl (fun _ => by kernel_rfl) rfl rfl hS ?_)
  intro b27 w hb27 hS hkp hnw
  refine WL.step rfl (Stp.res rfl rfl (Res.sliceAHi (h := 16) rfl rfl rfl underlying143 sz5 (by decide)) ?_)
  refine WL.step rfl (Stp.appendB (l := []) (r := Seal.tag (Seal.ik key use) b) rfl rfl rfl rfl et30 (by have h := Src.ofBs (P := Tryz.prog) (u := 30) underlying30 hS hdg; rw [show (Seal.tag (Seal.ik key use) b).length = 16 from Seal.tag_length _ _] at *; exact h) hS (OwnB.of hb27 (Nat.le_refl 0) (by omega) [] rfl rfl) (by simp) rfl rfl ?_)
  intro v3 w g3 hS hown
  obtain ⟨M4, hS, hle4, hfr4, hfin⟩ := hown.give hS
  refine WL.step rfl (Stp.res rfl rfl (Res.assign rfl rfl) ?_)
  refine WL.step rfl (Stp.res rfl rfl (Res.assign rfl rfl) ?_)
  refine WL.nil (Thn_n ?_)
  refine CW.ret ?_
  have hGA := ((hG1.trans hG2).trans hG3).trans ⟨hle4, hfr4⟩
  exact fq_tmp2 rfl rfl rfl ⟨M4, hS, hGA.1, hGA.2, _, by rw [Seal.tagR, if_pos hg], by rw [Seal.tagR, if_pos hg]; exact hfin⟩
theorem qtag_all (kv v : Value) (key b : List UInt8) (use : Int) (w0 : World) (M : PH) (hM : On M w0) (hkey : Bs M kv key) (hb : Bs M v b) (hlen : b.length ≤ 1000000) : Ok Tryz.prog 96 #[kv, .int .i64 use, v] w0 M (fun M' r => ∃ s, r = .tuple #[s, .int .i64 (Seal.tagR key use b).2] ∧ Bs M' s (Seal.tagR key use b).1) := by
  by_cases hq : Seal.Good key use
  · exact qtag_yes kv v key b use w0 M hM hkey hb hq hlen
  · exact qtag_no kv v key b use w0 M hM hkey hb hq
end Go.Proofs.YtcmgimicdcchlaaGreatDoor
set_option linter.unusedVariables false
set_option maxRecDepth 20000
namespace Go.Proofs.YtcmgimicdcchlaaGreatDoor
open Go.Proofs.Tryz
open Go Go.E
theorem qseal_bad (kv cv tv : Value) (key conf text : List UInt8) (use : Int) (w0 : World) (M : PH) (hM : On M w0) (hkey : Bs M kv key) (hconf : Bs M cv conf) (htext : Bs M tv text) (hg : ¬ Seal.Good key use) : Ok Tryz.prog 90 #[kv, .int .i64 use, cv, tv] w0 M (fun M' r => ∃ s, r = .tuple #[s, .int .i64 (Seal.sealR key use conf text).2] ∧ Bs M' s (Seal.sealR key use conf text).1) := by
  have hS := hM.st
  have hconf0 := hconf
  have htext0 := htext
  obtain ⟨ca, cc, rfl, c1, c2, c3, c4⟩ := hconf
  obtain ⟨xa, xc, rfl, x1, x2, x3, x4⟩ := htext
  refine enterB (l := [kv, .int .i64 use, .slice ca conf.length cc, .slice xa text.length xc]) 144 func90 rfl ntmps90 rfl ?_
  refine CW.seq ?_
  refine CW.region ?_
  refine WL.step rfl (Stp.res rfl rfl (Res.assign rfl rfl) ?_)
  refine WL.step rfl (Stp.res rfl rfl (Res.assign rfl rfl) ?_)
  refine WL.nil (Thn_n ?_)
  refine CW.seq ?_
  refine CW.region ?_
  refine WL.step rfl (Stp.res rfl rfl (Res.move rfl rfl) ?_)
  refine WL.step rfl (Stp.res rfl rfl (Res.move rfl rfl) ?_)
  refine WL.step rfl (Stp.callG (args := [_, _]) rfl rfl rfl cal95 rfl rfl hS (qkeys_no _ key use _ _ hS.on hkey hg) ?_)
  rintro _ w _ hS _ ⟨rfl, rfl⟩
  refine WL.step rfl (Stp.res rfl rfl (Res.move rfl rfl) ?_)
  refine WL.step rfl (Stp.res rfl rfl (Res.extract (l := [_, _, _]) rfl rfl rfl) ?_)
  refine WL.step rfl (Stp.res rfl rfl (Res.extract (l := [_, _, _]) rfl rfl rfl) ?_)
  refine WL.step rfl (Stp.res rfl rfl (Res.extract (l := [_, _, _]) rfl rfl rfl) ?_)
  refine WL.step rfl (Stp.res rfl rfl (Res.assign rfl rfl) ?_)
  refine WL.step rfl (Stp.res rfl rfl (Res.assign rfl rfl) ?_)
  refine WL.step rfl (Stp.res rfl rfl (Res.assign rfl rfl) ?_)
  refine WL.nil (Thn_n ?_)
  refine CW.seq ?_
  refine CW.seq ?_
  refine CW.region ?_
  refine WL.step rfl (Stp.res rfl rfl (Res.move rfl rfl) ?_)
  refine WL.step rfl (Stp.res rfl rfl (Res.to (Res.neq rfl rfl rfl) (by decide)) ?_)
  refine WL.step rfl (Stp.res rfl rfl (Res.move rfl rfl) ?_)
  refine WL.skipG 2 false rfl rfl rfl rfl rfl rfl ?_
  refine WL.skipG 2 false rfl rfl rfl rfl rfl rfl ?_
  refine WL.skipG 2 false rfl rfl rfl rfl rfl rfl ?_
  refine WL.step rfl (Stp.res rfl rfl (Res.pickT rfl rfl rfl) ?_)
  refine WL.nil (Thn_n ?_)
  refine CW.condT rfl ?_
  refine CW.seq ?_
  refine CW.region ?_
  refine WL.step rfl (Stp.res rfl rfl (Res.assign rfl rfl) ?_)
  refine WL.step rfl (Stp.res rfl rfl (Res.assign rfl rfl) ?_)
  refine WL.nil (Thn_n ?_)
  refine CW.ret (Thn_r ?_)
  exact fq_tmp2 rfl rfl rfl ⟨M, hS, PH.le.refl _, Fresh.refl _ _, _, by rw [Seal.sealR, if_neg (fun h => hg h.1)], by rw [Seal.sealR, if_neg (fun h => hg h.1)]; exact Bs.nil _⟩
theorem qseal_conf (kv cv tv : Value) (key conf text : List UInt8) (use : Int) (w0 : World) (M : PH) (hM : On M w0) (hkey : Bs M kv key) (hconf : Bs M cv conf) (htext : Bs M tv text) (hg : Seal.Good key use) (hc : ¬ conf.length = 16) : Ok Tryz.prog 90 #[kv, .int .i64 use, cv, tv] w0 M (fun M' r => ∃ s, r = .tuple #[s, .int .i64 (Seal.sealR key use conf text).2] ∧ Bs M' s (Seal.sealR key use conf text).1) := by
  have hS := hM.st
  have hconf0 := hconf
  have htext0 := htext
  obtain ⟨ca, cc, rfl, c1, c2, c3, c4⟩ := hconf
  obtain ⟨xa, xc, rfl, x1, x2, x3, x4⟩ := htext
  refine enterB (l := [kv, .int .i64 use, .slice ca conf.length cc, .slice xa text.length xc]) 144 func90 rfl ntmps90 rfl ?_
  refine CW.seq ?_
  refine CW.region ?_
  refine WL.step rfl (Stp.res rfl rfl (Res.assign rfl rfl) ?_)
  refine WL.step rfl (Stp.res rfl rfl (Res.assign rfl rfl) ?_)
  refine WL.nil (Thn_n ?_)
  refine CW.seq ?_
  refine CW.region ?_
  refine WL.step rfl (Stp.res rfl rfl (Res.move rfl rfl) ?_)
  refine WL.step rfl (Stp.res rfl rfl (Res.move rfl rfl) ?_)
  refine WL.step rfl (Stp.callG (args := [_, _]) rfl rfl rfl cal95 rfl rfl hS (qkeys_yes _ key use _ _ hS.on hkey hg) ?_)
  rintro _ w M1 hS hG1 ⟨s, t, rfl, hs, ht⟩
  refine WL.step rfl (Stp.res rfl rfl (Res.move rfl rfl) ?_)
  refine WL.step rfl (Stp.res rfl rfl (Res.extract (l := [_, _, _]) rfl rfl rfl) ?_)
  refine WL.step rfl (Stp.res rfl rfl (Res.extract (l := [_, _, _]) rfl rfl rfl) ?_)
  refine WL.step rfl (Stp.res rfl rfl (Res.extract (l := [_, _, _]) rfl rfl rfl) ?_)
  refine WL.step rfl (Stp.res rfl rfl (Res.assign rfl rfl) ?_)
  refine WL.step rfl (Stp.res rfl rfl (Res.assign rfl rfl) ?_)
  refine WL.step rfl (Stp.res rfl rfl (Res.assign rfl rfl) ?_)
  refine WL.nil (Thn_n ?_)
  refine CW.seq ?_
  refine CW.seq ?_
  refine CW.region ?_
  refine WL.step rfl (Stp.res rfl rfl (Res.move rfl rfl) ?_)
  refine WL.step rfl (Stp.res rfl rfl (Res.toF (Res.neq rfl rfl rfl) (by decide)) ?_)
  refine WL.step rfl (Stp.res rfl rfl (Res.move rfl rfl) ?_)
  refine WL.stepG 2 false rfl rfl rfl rfl (Stp.res rfl rfl (Res.move rfl rfl) ?_)
  refine WL.stepG 2 false rfl rfl rfl rfl (Stp.res rfl rfl (Res.len rfl rfl rfl rfl underlying30) ?_)
  refine WL.stepG 2 false rfl rfl rfl rfl (Stp.res rfl rfl (Res.to (Res.neq rfl rfl rfl) (by omega)) ?_)
  refine WL.step rfl (Stp.res rfl rfl (Res.pickF rfl rfl rfl) ?_)
  refine WL.nil (Thn_n ?_)
  refine CW.condT rfl ?_
  refine CW.seq ?_
  refine CW.region ?_
  refine WL.step rfl (Stp.res rfl rfl (Res.assign rfl rfl) ?_)
  refine WL.step rfl (Stp.res rfl rfl (Res.assign rfl rfl) ?_)
  refine WL.nil (Thn_n ?_)
  refine CW.ret (Thn_r ?_)
  exact fq_tmp2 rfl rfl rfl ⟨M1, hS, hG1.1, hG1.2, _, by rw [Seal.sealR, if_neg (fun h => hc h.2)], by rw [Seal.sealR, if_neg (fun h => hc h.2)]; exact Bs.nil _⟩
theorem qseal_long (kv cv tv : Value) (key conf text : List UInt8) (use : Int) (w0 : World) (M : PH) (hM : On M w0) (hkey : Bs M kv key) (hconf : Bs M cv conf) (htext : Bs M tv text) (hg : Seal.Good key use) (hc : conf.length = 16) (hl : 4096 < text.length) : Ok Tryz.prog 90 #[kv, .int .i64 use, cv, tv] w0 M (fun M' r => ∃ s, r = .tuple #[s, .int .i64 (Seal.sealR key use conf text).2] ∧ Bs M' s (Seal.sealR key use conf text).1) := by
  have hS := hM.st
  have hconf0 := hconf
  have htext0 := htext
  obtain ⟨ca, cc, rfl, c1, c2, c3, c4⟩ := hconf
  obtain ⟨xa, xc, rfl, x1, x2, x3, x4⟩ := htext
  refine enterB (l := [kv, .int .i64 use, .slice ca conf.length cc, .slice xa text.length xc]) 144 func90 rfl ntmps90 rfl ?_
  refine CW.seq ?_
  refine CW.region ?_
  refine WL.step rfl (Stp.res rfl rfl (Res.assign rfl rfl) ?_)
  refine WL.step rfl (Stp.res rfl rfl (Res.assign rfl rfl) ?_)
  refine WL.nil (Thn_n ?_)
  refine CW.seq ?_
  refine CW.region ?_
  refine WL.step rfl (Stp.res rfl rfl (Res.move rfl rfl) ?_)
  refine WL.step rfl (Stp.res rfl rfl (Res.move rfl rfl) ?_)
  refine WL.step rfl (Stp.callG (args := [_, _]) rfl rfl rfl cal95 rfl rfl hS (qkeys_yes _ key use _ _ hS.on hkey hg) ?_)
  rintro _ w M1 hS hG1 ⟨s, t, rfl, hs, ht⟩
  refine WL.step rfl (Stp.res rfl rfl (Res.move rfl rfl) ?_)
  refine WL.step rfl (Stp.res rfl rfl (Res.extract (l := [_, _, _]) rfl rfl rfl) ?_)
  refine WL.step rfl (Stp.res rfl rfl (Res.extract (l := [_, _, _]) rfl rfl rfl) ?_)
  refine WL.step rfl (Stp.res rfl rfl (Res.extract (l := [_, _, _]) rfl rfl rfl) ?_)
  refine WL.step rfl (Stp.res rfl rfl (Res.assign rfl rfl) ?_)
  refine WL.step rfl (Stp.res rfl rfl (Res.assign rfl rfl) ?_)
  refine WL.step rfl (Stp.res rfl rfl (Res.assign rfl rfl) ?_)
  refine WL.nil (Thn_n ?_)
  refine CW.seq ?_
  refine CW.seq ?_
  refine CW.region ?_
  refine WL.step rfl (Stp.res rfl rfl (Res.move rfl rfl) ?_)
  refine WL.step rfl (Stp.res rfl rfl (Res.toF (Res.neq rfl rfl rfl) (by decide)) ?_)
  refine WL.step rfl (Stp.res rfl rfl (Res.move rfl rfl) ?_)
  refine WL.stepG 2 false rfl rfl rfl rfl (Stp.res rfl rfl (Res.move rfl rfl) ?_)
  refine WL.stepG 2 false rfl rfl rfl rfl (Stp.res rfl rfl (Res.len rfl rfl rfl rfl underlying30) ?_)
  refine WL.stepG 2 false rfl rfl rfl rfl (Stp.res rfl rfl (Res.toF (Res.neq rfl rfl rfl) (by omega)) ?_)
  refine WL.step rfl (Stp.res rfl rfl (Res.pickF rfl rfl rfl) ?_)
  refine WL.nil (Thn_n ?_)
  refine CW.condF rfl ?_
  refine CW.skip (Thn_n ?_)
  refine CW.seq ?_
  refine CW.seq ?_
  refine CW.region ?_
  refine WL.step rfl (Stp.res rfl rfl (Res.move rfl rfl) ?_)
  refine WL.step rfl (Stp.res rfl rfl (Res.len rfl rfl rfl rfl underlying30) ?_)
  refine WL.step rfl (Stp.res rfl rfl (Res.gtr rfl rfl rfl) ?_)
  refine WL.nil (Thn_n ?_)
  refine CW.iteT rfl (by omega) ?_
  refine CW.seq ?_
  refine CW.region ?_
  refine WL.step rfl (Stp.res rfl rfl (Res.assign rfl rfl) ?_)
  refine WL.step rfl (Stp.res rfl rfl (Res.assign rfl rfl) ?_)
  refine WL.nil (Thn_n ?_)
  refine CW.ret (Thn_r ?_)
  exact fq_tmp2 rfl rfl rfl ⟨M1, hS, hG1.1, hG1.2, _, by rw [Seal.sealR, if_pos ⟨hg, hc⟩, if_neg (by omega)], by rw [Seal.sealR, if_pos ⟨hg, hc⟩, if_neg (by omega)]; exact Bs.nil _⟩
end Go.Proofs.YtcmgimicdcchlaaGreatDoor
set_option linter.unusedVariables false
set_option maxRecDepth 20000
namespace Go.Proofs.YtcmgimicdcchlaaGreatDoor
open Go.Proofs.Tryz
open Go Go.E
theorem qseal_ok (kv cv tv : Value) (key conf text : List UInt8) (use : Int) (w0 : World) (M : PH) (hM : On M w0) (hkey : Bs M kv key) (hconf : Bs M cv conf) (htext : Bs M tv text) (hg : Seal.Good key use) (hc : conf.length = 16) (hl : text.length ≤ 4096) : Ok Tryz.prog 90 #[kv, .int .i64 use, cv, tv] w0 M (fun M' r => ∃ s, r = .tuple #[s, .int .i64 (Seal.sealR key use conf text).2] ∧ Bs M' s (Seal.sealR key use conf text).1) := by
  have hS := hM.st
  have hconf0 := hconf
  have htext0 := htext
  obtain ⟨ca, cc, rfl, c1, c2, c3, c4⟩ := hconf
  obtain ⟨xa, xc, rfl, x1, x2, x3, x4⟩ := htext
  have hnl : (conf ++ text).length = conf.length + text.length := List.length_append ..
  have hcg := Seal.ceil_ge (conf ++ text).length
  have hBl : (Seal.padTo (conf ++ text)).length = Seal.ceil (conf ++ text).length := Seal.padTo_length _
  refine enterB (l := [kv, .int .i64 use, .slice ca conf.length cc, .slice xa text.length xc]) 144 func90 rfl ntmps90 rfl ?_
  refine CW.seq ?_
  refine CW.region ?_
  refine WL.step rfl (Stp.res rfl rfl (Res.assign rfl rfl) ?_)
  refine WL.step rfl (Stp.res rfl rfl (Res.assign rfl rfl) ?_)
  refine WL.nil (Thn_n ?_)
  refine CW.seq ?_
  refine CW.region ?_
  refine WL.step rfl (Stp.res rfl rfl (Res.move rfl rfl) ?_)
  refine WL.step rfl (Stp.res rfl rfl (Res.move rfl rfl) ?_)
  refine WL.step rfl (Stp.callG (args := [_, _]) rfl rfl rfl cal95 rfl rfl hS (qkeys_yes _ key use _ _ hS.on hkey hg) ?_)
  rintro _ w M1 hS hG1 ⟨s, t, rfl, hs, ht⟩
  refine WL.step rfl (Stp.res rfl rfl (Res.move rfl rfl) ?_)
  refine WL.step rfl (Stp.res rfl rfl (Res.extract (l := [_, _, _]) rfl rfl rfl) ?_)
  refine WL.step rfl (Stp.res rfl rfl (Res.extract (l := [_, _, _]) rfl rfl rfl) ?_)
  refine WL.step rfl (Stp.res rfl rfl (Res.extract (l := [_, _, _]) rfl rfl rfl) ?_)
  refine WL.step rfl (Stp.res rfl rfl (Res.assign rfl rfl) ?_)
  refine WL.step rfl (Stp.res rfl rfl (Res.assign rfl rfl) ?_)
  refine WL.step rfl (Stp.res rfl rfl (Res.assign rfl rfl) ?_)
  refine WL.nil (Thn_n ?_)
  refine CW.seq ?_
  refine CW.seq ?_
  refine CW.region ?_
  refine WL.step rfl (Stp.res rfl rfl (Res.move rfl rfl) ?_)
  refine WL.step rfl (Stp.res rfl rfl (Res.toF (Res.neq rfl rfl rfl) (by decide)) ?_)
  refine WL.step rfl (Stp.res rfl rfl (Res.move rfl rfl) ?_)
  refine WL.stepG 2 false rfl rfl rfl rfl (Stp.res rfl rfl (Res.move rfl rfl) ?_)
  refine WL.stepG 2 false rfl rfl rfl rfl (Stp.res rfl rfl (Res.len rfl rfl rfl rfl underlying30) ?_)
  refine WL.stepG 2 false rfl rfl rfl rfl (Stp.res rfl rfl (Res.toF (Res.neq rfl rfl rfl) (by omega)) ?_)
  refine WL.step rfl (Stp.res rfl rfl (Res.pickF rfl rfl rfl) ?_)
  refine WL.nil (Thn_n ?_)
  refine CW.condF rfl ?_
  refine CW.skip (Thn_n ?_)
  refine CW.seq ?_
  refine CW.seq ?_
  refine CW.region ?_
  refine WL.step rfl (Stp.res rfl rfl (Res.move rfl rfl) ?_)
  refine WL.step rfl (Stp.res rfl rfl (Res.len rfl rfl rfl rfl underlying30) ?_)
  refine WL.step rfl (Stp.res rfl rfl (Res.gtr rfl rfl rfl) ?_)
  refine WL.nil (Thn_n ?_)
  refine CW.iteF rfl (by omega) ?_
  refine CW.skip (Thn_n ?_)
  refine CW.seq ?_
  refine CW.region ?_
  refine WL.step rfl (Stp.lit (vals := []) (cs := bs []) (e := 5) rfl rfl (fun _ => by kernel_rfl) rfl rfl hS ?_)
  intro b42 w hb42 hS hkp hnw
  refine WL.step rfl (Stp.res rfl rfl (Res.move rfl rfl) ?_)
  refine WL.step rfl (Stp.appendB (l := []) (r := conf) rfl rfl rfl rfl et30 (Src.ofBs underlying30 hS (hconf0.mono hG1.1)) hS (OwnB.of hb42 (Nat.le_refl 0) (by omega) [] rfl rfl) (by simp; omega) rfl rfl ?_)
  intro av w g1 hS hown
  refine WL.step rfl (Stp.res rfl rfl (Res.move rfl rfl) ?_)
  refine WL.step rfl (Stp.appendB (l := [] ++ conf) (r := text) rfl rfl rfl rfl et30 (Src.ofBs underlying30 hS (htext0.mono hG1.1)) hS hown (by simp; omega) rfl rfl ?_)
  intro av2 w g2 hS hown
  obtain ⟨M2, hS, hle2, hfr2, hall⟩ := hown.give hS
  have hG2 : Grow w0.heap.size M1 M2 := ⟨hle2, hfr2⟩
  change Bs M2 av2 (conf ++ text) at hall
  refine WL.step rfl (Stp.res rfl rfl (Res.assign rfl rfl) ?_)
  refine WL.nil (Thn_n ?_)
  refine CW.seq ?_
  obtain ⟨lb, lo, lc, rfl, l1, l2, lcell⟩ := hall.at (by omega)
  refine CW.region ?_
  refine WL.step rfl (Stp.res rfl rfl (Res.move rfl rfl) ?_)
  refine WL.step rfl (Stp.res rfl rfl (Res.len rfl rfl rfl rfl underlying30) ?_)
  refine WL.step rfl (Stp.res rfl rfl (Res.assign rfl rfl) ?_)
  refine WL.nil (Thn_n ?_)
  refine CW.seq ?_
  refine CW.region ?_
  refine WL.step rfl (Stp.makeB (k := 16) (c := 16) rfl rfl rfl et30 ⟨Nat.le_refl 16, by decide⟩ rfl rfl hS ?_)
  intro b49 w hb49 hS hkp hnw
  refine WL.step rfl (Stp.res rfl rfl (Res.assign rfl rfl) ?_)
  refine WL.nil (Thn_n ?_)
  refine CW.seq ?_
  have hF := hS.freezeG (i := 0) rfl hb49
  obtain ⟨M3, hG3, hz, hS⟩ : ∃ M3, Grow w0.heap.size M2 M3 ∧ Bs M3 (.slice (some ⟨b49, 0, none⟩) 16 16) (List.replicate 16 0) ∧ St w0 w M3 [] := ⟨_, hF.2, Bs.of' (PH.add_self _ _ _) (List.length_replicate ..) (by omega), hF.1⟩
  refine CW.region ?_
  refine WL.step rfl (Stp.lit (vals := []) (cs := #[]) (e := 30) rfl rfl (fun _ => by kernel_rfl) rfl rfl hS ?_)
  intro b50 w hb50 hS hkp hnw
  refine WL.step rfl (Stp.res rfl rfl (Res.assign rfl rfl) ?_)
  refine WL.nil (Thn_n ?_)
  refine CW.seq ?_
  refine CW.seq ?_
  have hown := own_nil0 w0.heap.size b50 30 hb50
  refine CW.region ?_
  refine WL.step rfl (Stp.res rfl rfl (Res.assign rfl rfl) ?_)
  refine WL.nil (Thn_n ?_)
  refine CW.block ?_
  refine CW.loop (σ := Nat × PH × Value × Value × Owned × List Value) (fun s_ => [(0, kv), (1, .int .i64 use), (10, s), (13, .slice (some ⟨lb, lo, none⟩) (conf ++ text).length lc), (14, .int .i64 ((conf ++ text).length : Int)), (15, s_.2.2.1), (16, s_.2.2.2.1), (17, .int .i64 ((16 * s_.1 : Nat) : Int))])
    (fun s_ w' => 16 * s_.1 < (conf ++ text).length + 16 ∧ Grow w0.heap.size M3 s_.2.1 ∧ St w0 w' s_.2.1 (s_.2.2.2.2.1 ++ []) ∧ Bs s_.2.1 s_.2.2.1 (Seal.cl (Seal.ek key use) (Seal.padTo (conf ++ text)) s_.1) ∧ Own w0.heap.size s_.2.2.2.2.1 s_.2.2.2.1 s_.1 1 s_.2.2.2.2.2 30 ∧ Bl s_.2.1 s_.2.2.2.2.2 (fun i => Seal.cl (Seal.ek key use) (Seal.padTo (conf ++ text)) (i + 1)) s_.1) (fun s_ => (conf ++ text).length + 16 - 16 * s_.1) (0, M3, _, _, _, []) ⟨rfl, rfl, rfl, rfl, rfl, rfl, rfl, rfl, trivial⟩ ⟨by dsimp only; omega, Grow.refl _ _, hS, hz, hown, Bl.nil _ _⟩ ?_
  rintro ⟨j, MJ, lv, bv, g, xs⟩ w1 ⟨hj, hGJ, hS, hlast, hown, hbl⟩
  dsimp only at hj hGJ hS hlast hown hbl ⊢
  refine CW.seq ?_
  refine CW.seq ?_
  refine CW.region ?_
  refine WL.step rfl (Stp.res rfl rfl (Res.move rfl rfl) ?_)
  refine WL.step rfl (Stp.res rfl rfl (Res.move rfl rfl) ?_)
  refine WL.step rfl (Stp.res rfl rfl (Res.lss rfl rfl rfl) ?_)
  refine WL.nil (Thn_n ?_)
  refine CW.ite rfl (fun h => ?_) (fun h => ?_)
  · have hlt : 16 * j < (conf ++ text).length := by omega
    refine CW.skip (Thn_n ?_)
    refine CW.seq ?_
    refine CW.block ?_
    refine CW.seq ?_
    obtain ⟨OO, hOO⟩ : ∃ OO, OO = g ++ [] := ⟨_, rfl⟩
    rw [← hOO] at hS
    obtain ⟨qb, qo, qc, rfl, q1, q2, qcell⟩ := hlast.at (by rw [Seal.cl_length]; decide)
    refine CW.region ?_
    refine WL.step rfl (Stp.makeB (k := 16) (c := 16) rfl rfl rfl et30 ⟨Nat.le_refl 16, by decide⟩ rfl rfl hS ?_)
    intro b56 w hb56 hS hkp hnw
    refine WL.step rfl (Stp.res rfl rfl (Res.assign rfl rfl) ?_)
    refine WL.nil (Thn_n ?_)
    refine CW.seq ?_
    refine CW.seq ?_
    refine CW.region ?_
    refine WL.step rfl (Stp.res rfl rfl (Res.assign rfl rfl) ?_)
    refine WL.nil (Thn_n ?_)
    refine CW.block ?_
    refine CW.loop (σ := Nat) (fun i => [(0, kv), (1, .int .i64 use), (10, s), (13, .slice (some ⟨lb, lo, none⟩) (conf ++ text).length lc), (14, .int .i64 ((conf ++ text).length : Int)), (15, .slice (some ⟨qb, qo, none⟩) (Seal.cl (Seal.ek key use) (Seal.padTo (conf ++ text)) j).length qc), (16, bv), (17, .int .i64 ((16 * j : Nat) : Int)), (18, .slice (some ⟨b56, 0, none⟩) 16 16), (19, .int .i64 (i : Int))])
      (fun i w' => i ≤ 16 ∧ St w0 w' MJ ((b56, .cells (bs (Aes.upTo i (fun i => (Seal.cl (Seal.ek key use) (Seal.padTo (conf ++ text)) j).getD i 0 ^^^ (Seal.padTo (conf ++ text)).getD (16 * j + i) 0) (List.replicate 16 0))) 5 (0, 0)) :: OO)) (fun i => 16 - i) 0 ⟨rfl, rfl, rfl, rfl, rfl, rfl, rfl, rfl, rfl, rfl, trivial⟩ ⟨by omega, by rw [Aes.upTo_zero]; exact hS⟩ ?_
    rintro i w2 ⟨hi, hS⟩
    refine CW.seq ?_
    refine CW.seq ?_
    refine CW.region ?_
    refine WL.step rfl (Stp.res rfl rfl (Res.move rfl rfl) ?_)
    refine WL.step rfl (Stp.res rfl rfl (Res.lss rfl rfl rfl) ?_)
    refine WL.nil (Thn_n ?_)
    refine CW.ite rfl (fun h2 => ?_) (fun h2 => ?_)
    · have hlt2 : i < 16 := by omega
      refine CW.skip (Thn_n ?_)
      refine CW.seq ?_
      refine CW.block ?_
      refine CW.seq ?_
      refine CW.region ?_
      refine WL.step rfl (Stp.res rfl rfl (Res.move rfl rfl) ?_)
      refine WL.step rfl (Stp.res rfl rfl (Res.move rfl rfl) ?_)
      refine WL.step rfl (Stp.res rfl rfl (Res.move rfl rfl) ?_)
      refine WL.step rfl (Stp.res rfl rfl (Res.move rfl rfl) ?_)
      refine WL.step rfl (Stp.res rfl rfl (Res.idxS1 (k := i) rfl rfl rfl underlying30 sz5 (Int.toNat_natCast _) (by rw [Seal.cl_length]; omega)) ?_)
      refine WL.step rfl (Stp.res rfl rfl (Res.load1 rfl rfl underlying5 rfl (hS.cell (qcell _ (by rw [Seal.cl_length]; omega)))) ?_)
      refine WL.step rfl (Stp.res rfl rfl (Res.idxS0 (k := i) rfl rfl rfl underlying30 sz5 (Int.toNat_natCast _) (by omega)) ?_)
      refine WL.step rfl (Stp.storeB 0 rfl rfl rfl sz5 rfl hS rfl (by simp; omega) ?_)
      intro w hS hpt
      change St w0 w MJ ((b56, .cells (bs ((Aes.upTo i (fun i => (Seal.cl (Seal.ek key use) (Seal.padTo (conf ++ text)) j).getD i 0 ^^^ (Seal.padTo (conf ++ text)).getD (16 * j + i) 0) (List.replicate 16 0)).set i ((Seal.cl (Seal.ek key use) (Seal.padTo (conf ++ text)) j).getD i 0))) 5 (0, 0)) :: OO) at hS
      refine WL.nil (Thn_n ?_)
      refine CW.seq ?_
      refine CW.region ?_
      refine WL.step rfl (Stp.res rfl rfl (Res.move rfl rfl) ?_)
      refine WL.step rfl (Stp.res rfl rfl (Res.move rfl rfl) ?_)
      refine WL.step rfl (Stp.res rfl rfl (Res.add rfl rfl rfl (by omega)) ?_)
      refine WL.step rfl (Stp.res rfl rfl (Res.move rfl rfl) ?_)
      refine WL.step rfl (Stp.res rfl rfl (Res.lss rfl rfl rfl) ?_)
      refine WL.nil (Thn_n ?_)
      refine CW.ite rfl (fun h3 => ?_) (fun h3 => ?_)
      · have hin : 16 * j + i < (conf ++ text).length := by omega
        have hS := hS.drew
        have hK0 := And.intro (hS.get (i := 0) rfl) hS.on
        refine CW.last (fun w => w.heap[b56]? = some (.cells (bs ((Aes.upTo i (fun i => (Seal.cl (Seal.ek key use) (Seal.padTo (conf ++ text)) j).getD i 0 ^^^ (Seal.padTo (conf ++ text)).getD (16 * j + i) 0) (List.replicate 16 0)).set i ((Seal.cl (Seal.ek key use) (Seal.padTo (conf ++ text)) j).getD i 0))) 5 (0, 0)) ∧ On MJ w) [14] mixed ?_
        refine ZL.take 0 rfl (by kernel_rfl) rfl rfl rfl hK0 (fun w hK => Res.move rfl rfl) ?_
        refine ZL.take 1 rfl (by kernel_rfl) rfl rfl rfl hK0 (fun w hK => Res.move rfl rfl) ?_
        refine ZL.take 2 rfl (by kernel_rfl) rfl rfl rfl hK0 (fun w hK => Res.move rfl rfl) ?_
        refine ZL.take 3 rfl (by kernel_rfl) rfl rfl rfl hK0 (fun w hK => Res.move rfl rfl) ?_
        refine ZL.take 4 rfl (by kernel_rfl) rfl rfl rfl hK0 (fun w hK => Res.idxS0 (k := i) rfl rfl rfl underlying30 sz5 (Int.toNat_natCast _) (by omega)) ?_
        refine ZL.take 5 rfl (by kernel_rfl) rfl rfl rfl hK0 (fun w hK => Res.load1 (v := byte ((Seal.cl (Seal.ek key use) (Seal.padTo (conf ++ text)) j).getD i 0)) rfl rfl underlying5 rfl (w := w) (by rw [cell_of hK.1]; exact (bs_get (by simp; omega)).trans (by congr 2; simp [List.getD, show i < 16 by omega]))) ?_
        refine ZL.take 6 rfl (by kernel_rfl) rfl rfl rfl hK0 (fun w hK => Res.move rfl rfl) ?_
        refine ZL.take 7 rfl (by kernel_rfl) rfl rfl rfl hK0 (fun w hK => Res.move rfl rfl) ?_
        refine ZL.take 8 rfl (by kernel_rfl) rfl rfl rfl hK0 (fun w hK => Res.move rfl rfl) ?_
        refine ZL.take 9 rfl (by kernel_rfl) rfl rfl rfl hK0 (fun w hK => Res.cast (Res.add rfl rfl rfl (by omega)) (v' := .int .i64 ((16 * j + i : Nat) : Int)) (by congr 1)) ?_
        refine ZL.take 10 rfl (by kernel_rfl) rfl rfl rfl hK0 (fun w hK => Res.idxS1 (k := 16 * j + i) rfl rfl rfl underlying30 sz5 (Int.toNat_natCast _) (by omega)) ?_
        refine ZL.take 11 rfl (by kernel_rfl) rfl rfl rfl hK0 (fun w hK => Res.load1 (v := byte ((conf ++ text).getD (16 * j + i) 0)) rfl rfl underlying5 rfl (w := w) (hK.2.st.cell (PH.cell_mono ((hG3.trans hGJ).1) (lcell _ (by omega))))) ?_
        refine ZL.take 12 rfl (by kernel_rfl) rfl rfl rfl hK0 (fun w hK => Res.xorB _ rfl rfl rfl) ?_
        refine ZL.take 13 rfl (by kernel_rfl) rfl rfl rfl hK0 (fun w hK => Res.idxS0 (k := i) rfl rfl rfl underlying30 sz5 (Int.toNat_natCast _) (by omega)) ?_
        refine ZL.end 14 (by decide) rfl (by kernel_rfl) rfl (Stp.storeB 0 rfl rfl rfl sz5 rfl hS rfl (by simp; omega) ?_)
        intro w hS hpt
        have hS9 : St w0 w MJ ((b56, .cells (bs (((Aes.upTo i (fun i => (Seal.cl (Seal.ek key use) (Seal.padTo (conf ++ text)) j).getD i 0 ^^^ (Seal.padTo (conf ++ text)).getD (16 * j + i) 0) (List.replicate 16 0)).set i ((Seal.cl (Seal.ek key use) (Seal.padTo (conf ++ text)) j).getD i 0)).set i ((Seal.cl (Seal.ek key use) (Seal.padTo (conf ++ text)) j).getD i 0 ^^^ (conf ++ text).getD (16 * j + i) 0))) 5 (0, 0)) :: OO) := hS
        rw [List.set_set, ← Seal.pad_in (b := conf ++ text) (by omega)] at hS9
        refine ZL.done (by kernel_rfl) (Blk_n (Thn_n ?_))
        refine CW.region ?_
        refine WL.step rfl (Stp.res rfl rfl (Res.move rfl rfl) ?_)
        refine WL.step rfl (Stp.res rfl rfl (Res.add rfl rfl rfl (by omega)) ?_)
        refine WL.step rfl (Stp.res rfl rfl (Res.assign rfl rfl) ?_)
        refine WL.nil (Thn_n ?_)
        refine ⟨i + 1, ⟨rfl, rfl, rfl, rfl, rfl, rfl, rfl, rfl, rfl, rfl, trivial⟩, ⟨by omega, ?_⟩, by omega⟩
        rw [← Aes.upTo_set]
        exact hS9
      · have hin : ¬ 16 * j + i < (conf ++ text).length := by omega
        have hS9 := hS
        rw [show (Seal.cl (Seal.ek key use) (Seal.padTo (conf ++ text)) j).getD i 0 = (Seal.cl (Seal.ek key use) (Seal.padTo (conf ++ text)) j).getD i 0 ^^^ (Seal.padTo (conf ++ text)).getD (16 * j + i) 0 by rw [Seal.pad_out hin, UInt8.xor_zero]] at hS9
        refine CW.skip (Blk_n (Thn_n ?_))
        refine CW.region ?_
        refine WL.step rfl (Stp.res rfl rfl (Res.move rfl rfl) ?_)
        refine WL.step rfl (Stp.res rfl rfl (Res.add rfl rfl rfl (by omega)) ?_)
        refine WL.step rfl (Stp.res rfl rfl (Res.assign rfl rfl) ?_)
        refine WL.nil (Thn_n ?_)
        refine ⟨i + 1, ⟨rfl, rfl, rfl, rfl, rfl, rfl, rfl, rfl, rfl, rfl, trivial⟩, ⟨by omega, ?_⟩, by omega⟩
        rw [← Aes.upTo_set]
        exact hS9
    · obtain rfl : i = 16 := by omega
      refine CW.exit (Thn_x (Thn_x (Blk_x (Thn_n ?_))))
      refine CW.seq ?_
      rw [Aes.upTo_all _ _ 16 (List.length_replicate ..), Seal.xor_blk] at hS
      have hF := hS.freezeG (i := 0) rfl hb56
      obtain ⟨M4, hG4, hx, hS⟩ : ∃ M4, Grow w0.heap.size MJ M4 ∧ Bs M4 (.slice (some ⟨b56, 0, none⟩) 16 16) (Aes.xorB (Seal.blk (Seal.padTo (conf ++ text)) j) (Seal.cl (Seal.ek key use) (Seal.padTo (conf ++ text)) j)) ∧ St w0 w2 M4 OO := ⟨_, hF.2, Bs.of' (PH.add_self _ _ _) (Aes.xorB_length _ _) (by omega), hF.1⟩
      refine CW.region ?_
      refine WL.step rfl (Stp.res rfl rfl (Res.move rfl rfl) ?_)
      refine WL.step rfl (Stp.res rfl rfl (Res.move rfl rfl) ?_)
      refine WL.step rfl (Stp.callG (args := [_, _]) rfl rfl rfl cal125 rfl rfl hS (rencrypt_ok _ _ (Seal.ek key use) (Aes.xorB (Seal.blk (Seal.padTo (conf ++ text)) j) (Seal.cl (Seal.ek key use) (Seal.padTo (conf ++ text)) j)) _ _ hS.on (hs.mono (((hG2.trans hG3).trans hGJ).trans hG4).1) hx (Seal.ek_length ..) (Aes.xorB_length ..)) ?_)
      rintro _ w M5 hS hG5 ⟨lv2, rfl, hlv2⟩
      have hlv2 : Bs M5 lv2 (Seal.cl (Seal.ek key use) (Seal.padTo (conf ++ text)) (j + 1)) := hlv2
      obtain ⟨va2, vc2, rfl, z1, z2, z3, z4⟩ := id hlv2
      refine WL.step rfl (Stp.res rfl rfl (Res.move rfl rfl) ?_)
      refine WL.step rfl (Stp.res rfl rfl (Res.extract (l := [_, _]) rfl rfl rfl) ?_)
      refine WL.step rfl (Stp.res rfl rfl (Res.extract (l := [_, _]) rfl rfl rfl) ?_)
      refine WL.step rfl (Stp.res rfl rfl (Res.assign rfl rfl) ?_)
      refine WL.nil (Thn_n ?_)
      subst hOO
      refine CW.region ?_
      refine WL.step rfl (Stp.res rfl rfl (Res.move rfl rfl) ?_)
      refine WL.step rfl (Stp.res rfl rfl (Res.move rfl rfl) ?_)
      refine WL.step rfl (Stp.lit (vals := [(0, .slice va2 (Seal.cl (Seal.ek key use) (Seal.padTo (conf ++ text)) (j + 1)).length vc2)]) (cs := #[.slice va2 (Seal.cl (Seal.ek key use) (Seal.padTo (conf ++ text)) (j + 1)).length vc2]) (e := 30) rfl rfl (fun _ => by kernel_rfl) rfl rfl hS ?_)
      intro b95 w hb95 hS hkp hnw
      have hF := hS.freezeG (i := 0) rfl hb95
      obtain ⟨M6, hG6, hlit, hS⟩ : ∃ M6, Grow w0.heap.size M5 M6 ∧ Vs M6 (.slice (some ⟨b95, 0, none⟩) 1 1) [.slice va2 (Seal.cl (Seal.ek key use) (Seal.padTo (conf ++ text)) (j + 1)).length vc2] ∧ St w0 w M6 (g ++ []) := ⟨_, hF.2, Vs.of (PH.add_self _ _ _) rfl rfl (by decide), hF.1⟩
      refine WL.step rfl (Stp.append (sz := 1) (m := 1) (k := j) (xs := xs) rfl rfl rfl rfl et94 (by decide) rfl (Src.ofVs underlying94 hS hlit (by intro x hx; simp at hx; subst hx; exact hlv2.one)) hS hown (by omega) (by omega) rfl rfl ?_)
      intro bv2 w g2 hS hown
      refine WL.step rfl (Stp.res rfl rfl (Res.assign rfl rfl) ?_)
      refine WL.nil (Blk_n (Thn_n ?_))
      refine CW.region ?_
      refine WL.step rfl (Stp.res rfl rfl (Res.move rfl rfl) ?_)
      refine WL.step rfl (Stp.res rfl rfl (Res.add rfl rfl rfl (by omega)) ?_)
      refine WL.step rfl (Stp.res rfl rfl (Res.assign rfl rfl) ?_)
      refine WL.nil (Thn_n ?_)
      exact ⟨(j + 1, M6, _, bv2, g2, xs ++ [_]), ⟨rfl, rfl, rfl, rfl, rfl, rfl, rfl, intc (by omega), trivial⟩, ⟨by dsimp only; omega, ((hGJ.trans hG4).trans hG5).trans hG6, hS, hlv2.mono hG6.1, hown, (hbl.mono ((hG4.trans hG5).trans hG6).1).snoc (hlv2.mono hG6.1)⟩, by dsimp only; omega⟩
  · obtain rfl : j = (Seal.ceil (conf ++ text).length / 16) := by omega
    obtain ⟨wb, cs, cp, hwb, rfl, rfl, hxl, hmm, hcp, hcs⟩ := Own.vs hown (by omega)
    have hcsf : ∀ i, i < (Seal.ceil (conf ++ text).length / 16) → ∃ y, cs[i]? = some y ∧ Bs MJ y ((fun i => Seal.cl (Seal.ek key use) (Seal.padTo (conf ++ text)) (i + 1)) i) := fun i hi => by
      obtain ⟨y, e1, e2⟩ := hbl.2 i hi
      exact ⟨y, hcs _ _ e1, e2⟩
    refine CW.exit (Thn_x (Thn_x (Blk_x (Thn_n ?_))))
    refine CW.seq ?_
    refine CW.region ?_
    refine WL.step rfl (Stp.res rfl rfl (Res.move rfl rfl) ?_)
    refine WL.step rfl (Stp.res rfl rfl (Res.len rfl rfl rfl rfl underlying94) ?_)
    refine WL.step rfl (Stp.res rfl rfl (Res.assign rfl rfl) ?_)
    refine WL.nil (Thn_n ?_)
    refine CW.seq ?_
    refine CW.seq ?_
    refine CW.region ?_
    refine WL.step rfl (Stp.res rfl rfl (Res.move rfl rfl) ?_)
    refine WL.step rfl (Stp.res rfl rfl (Res.gtr rfl rfl rfl) ?_)
    refine WL.nil (Thn_n ?_)
    refine CW.ite rfl (fun h4 => ?_) (fun h4 => ?_)
    · have hm1 : 1 < (Seal.ceil (conf ++ text).length / 16) := by omega
      obtain ⟨y1, hy1, hb1⟩ := hbl.2 ((Seal.ceil (conf ++ text).length / 16) - 1) (by omega)
      obtain ⟨y2, hy2, hb2⟩ := hbl.2 ((Seal.ceil (conf ++ text).length / 16) - 2) (by omega)
      have hsz : (Seal.ceil (conf ++ text).length / 16) ≤ cs.size := by
        obtain ⟨q, _⟩ := Array.getElem?_eq_some_iff.1 (hcs _ _ hy1)
        omega
      have hS := hS.drew
      have hK0 := hS.get (i := 0) rfl
      refine CW.last (fun w => w.heap[wb]? = some (.cells cs 30 (0, 0))) [3, 4, 5, 17, 18, 19] mixed ?_
      refine ZL.takeP 3 rfl (by kernel_rfl) rfl rfl rfl (fun w => Res.move rfl rfl) ?_
      refine ZL.takeP 4 rfl (by kernel_rfl) rfl rfl rfl (fun w => Res.move rfl rfl) ?_
      refine ZL.takeP 5 rfl (by kernel_rfl) rfl rfl rfl (fun w => Res.cast (Res.sub rfl rfl rfl (by omega)) (v' := .int .i64 (((Seal.ceil (conf ++ text).length / 16) - 1 : Nat) : Int)) (by congr 1; omega)) ?_
      refine ZL.take 0 rfl (by kernel_rfl) rfl rfl rfl hK0 (fun w hK => Res.move rfl rfl) ?_
      refine ZL.take 1 rfl (by kernel_rfl) rfl rfl rfl hK0 (fun w hK => Res.move rfl rfl) ?_
      refine ZL.take 2 rfl (by kernel_rfl) rfl rfl rfl hK0 (fun w hK => Res.cast (Res.sub rfl rfl rfl (by omega)) (v' := .int .i64 (((Seal.ceil (conf ++ text).length / 16) - 2 : Nat) : Int)) (by congr 1; omega)) ?_
      refine ZL.take 6 rfl (by kernel_rfl) rfl rfl rfl hK0 (fun w hK => Res.move rfl rfl) ?_
      refine ZL.take 7 rfl (by kernel_rfl) rfl rfl rfl hK0 (fun w hK => Res.move rfl rfl) ?_
      refine ZL.take 8 rfl (by kernel_rfl) rfl rfl rfl hK0 (fun w hK => Res.cast (Res.sub rfl rfl rfl (by omega)) (v' := .int .i64 (((Seal.ceil (conf ++ text).length / 16) - 1 : Nat) : Int)) (by congr 1; omega)) ?_
      refine ZL.take 9 rfl (by kernel_rfl) rfl rfl rfl hK0 (fun w hK => Res.idxS0 (k := (Seal.ceil (conf ++ text).length / 16) - 1) rfl rfl rfl underlying94 sz30 (Int.toNat_natCast _) (by omega)) ?_
      refine ZL.take 10 rfl (by kernel_rfl) rfl rfl rfl hK0 (fun w hK => Res.load1 (v := y1) rfl rfl underlying30 rfl (w := w) (by rw [cell_of hK]; exact hcs _ _ hy1)) ?_
      refine ZL.take 11 rfl (by kernel_rfl) rfl rfl rfl hK0 (fun w hK => Res.move rfl rfl) ?_
      refine ZL.take 12 rfl (by kernel_rfl) rfl rfl rfl hK0 (fun w hK => Res.move rfl rfl) ?_
      refine ZL.take 13 rfl (by kernel_rfl) rfl rfl rfl hK0 (fun w hK => Res.cast (Res.sub rfl rfl rfl (by omega)) (v' := .int .i64 (((Seal.ceil (conf ++ text).length / 16) - 2 : Nat) : Int)) (by congr 1; omega)) ?_
      refine ZL.take 14 rfl (by kernel_rfl) rfl rfl rfl hK0 (fun w hK => Res.idxS0 (k := (Seal.ceil (conf ++ text).length / 16) - 2) rfl rfl rfl underlying94 sz30 (Int.toNat_natCast _) (by omega)) ?_
      refine ZL.take 15 rfl (by kernel_rfl) rfl rfl rfl hK0 (fun w hK => Res.load1 (v := y2) rfl rfl underlying30 rfl (w := w) (by rw [cell_of hK]; exact hcs _ _ hy2)) ?_
      refine ZL.take 16 rfl (by kernel_rfl) rfl rfl rfl hK0 (fun w hK => Res.idxS0 (k := (Seal.ceil (conf ++ text).length / 16) - 2) rfl rfl rfl underlying94 sz30 (Int.toNat_natCast _) (by omega)) ?_
      refine ZL.end 17 (by decide) rfl (by kernel_rfl) rfl (Stp.store1 0 (v := y1) rfl rfl rfl sz30 hb1.one rfl hS rfl (by omega) ?_)
      intro w hS hpt
      refine ZL.end 18 (by decide) rfl (by kernel_rfl) rfl (Stp.res rfl rfl (Res.idxS0 (k := (Seal.ceil (conf ++ text).length / 16) - 1) rfl rfl rfl underlying94 sz30 (Int.toNat_natCast _) (by omega)) ?_)
      refine ZL.end 19 (by decide) rfl (by kernel_rfl) rfl (Stp.store1 0 (v := y2) rfl rfl rfl sz30 hb2.one rfl hS rfl (by rw [Array.size_setIfInBounds]; omega) ?_)
      intro w hS hpt
      change St w0 w MJ [(wb, .cells ((cs.setIfInBounds ((Seal.ceil (conf ++ text).length / 16) - 2) y1).setIfInBounds ((Seal.ceil (conf ++ text).length / 16) - 1) y2) 30 (0, 0))] at hS
      obtain ⟨cs2, hcs2⟩ : ∃ cs2, cs2 = (cs.setIfInBounds ((Seal.ceil (conf ++ text).length / 16) - 2) y1).setIfInBounds ((Seal.ceil (conf ++ text).length / 16) - 1) y2 := ⟨_, rfl⟩
      rw [← hcs2] at hS
      have hsw0 : ∀ i, i < (Seal.ceil (conf ++ text).length / 16) → ∃ y, cs2[i]? = some y ∧ Bs MJ y ((Seal.swapped (fun i => Seal.cl (Seal.ek key use) (Seal.padTo (conf ++ text)) (i + 1)) (Seal.ceil (conf ++ text).length / 16)) i) := by
        rw [hcs2]
        exact swap_cells (by omega) (by omega) hcsf hy1 hb1 hy2 hb2
      obtain ⟨MB, hGB, hMB, hS⟩ : ∃ MB, Grow w0.heap.size MJ MB ∧ MB wb = some (.cells cs2 30 (0, 0)) ∧ St w0 w MB [] := by
        have hF := hS.freezeG (i := 0) rfl hwb
        exact ⟨_, hF.2, PH.add_self _ _ _, hF.1⟩
      have hsw : ∀ i, i < (Seal.ceil (conf ++ text).length / 16) → ∃ y, cs2[i]? = some y ∧ Bs MB y ((Seal.swapped (fun i => Seal.cl (Seal.ek key use) (Seal.padTo (conf ++ text)) (i + 1)) (Seal.ceil (conf ++ text).length / 16)) i) := fun i hi => by
        obtain ⟨y, e1, e2⟩ := hsw0 i hi
        exact ⟨y, e1, e2.mono hGB.1⟩
      refine ZL.done (by kernel_rfl) (Thn_n ?_)
      refine CW.seq ?_
      refine CW.region ?_
      refine WL.step rfl (Stp.lit (vals := []) (cs := bs []) (e := 5) rfl rfl (fun _ => by kernel_rfl) rfl rfl hS ?_)
      intro b119 w hb119 hS hkp hnw
      refine WL.step rfl (Stp.res rfl rfl (Res.assign rfl rfl) ?_)
      refine WL.nil (Thn_n ?_)
      refine CW.seq ?_
      refine CW.seq ?_
      refine CW.region ?_
      refine WL.step rfl (Stp.res rfl rfl (Res.assign rfl rfl) ?_)
      refine WL.nil (Thn_n ?_)
      refine CW.block ?_
      refine CW.loop (σ := Nat × PH × Value × Owned) (fun s_ => [(0, kv), (1, .int .i64 use), (14, .int .i64 ((conf ++ text).length : Int)), (16, .slice (some ⟨wb, 0, none⟩) (Seal.ceil (conf ++ text).length / 16) cp), (20, .int .i64 ((Seal.ceil (conf ++ text).length / 16) : Int)), (21, s_.2.2.1), (22, .int .i64 (s_.1 : Int))])
        (fun s_ w' => s_.1 ≤ (Seal.ceil (conf ++ text).length / 16) ∧ Grow w0.heap.size MB s_.2.1 ∧ St w0 w' s_.2.1 (s_.2.2.2 ++ []) ∧ OwnB w0.heap.size s_.2.2.2 s_.2.2.1 (Seal.cat (Seal.swapped (fun i => Seal.cl (Seal.ek key use) (Seal.padTo (conf ++ text)) (i + 1)) (Seal.ceil (conf ++ text).length / 16)) s_.1) 5) (fun s_ => (Seal.ceil (conf ++ text).length / 16) - s_.1) (0, MB, _, _) ⟨rfl, rfl, rfl, rfl, rfl, rfl, rfl, trivial⟩ ⟨by dsimp only; omega, Grow.refl _ _, hS, OwnB.of hb119 (Nat.le_refl 0) (by omega) [] rfl rfl⟩ ?_
      rintro ⟨i, MK, ov, g⟩ w3 ⟨hi, hGK, hS, hown⟩
      dsimp only at hi hGK hS hown ⊢
      refine CW.seq ?_
      refine CW.seq ?_
      refine CW.region ?_
      refine WL.step rfl (Stp.res rfl rfl (Res.move rfl rfl) ?_)
      refine WL.step rfl (Stp.res rfl rfl (Res.move rfl rfl) ?_)
      refine WL.step rfl (Stp.res rfl rfl (Res.lss rfl rfl rfl) ?_)
      refine WL.nil (Thn_n ?_)
      refine CW.ite rfl (fun h5 => ?_) (fun h5 => ?_)
      · have hlt5 : i < (Seal.ceil (conf ++ text).length / 16) := by omega
        obtain ⟨y, hy, hby⟩ := hsw i hlt5
        refine CW.skip (Thn_n ?_)
        refine CW.seq ?_
        refine CW.block ?_
        refine CW.region ?_
        refine WL.step rfl (Stp.res rfl rfl (Res.move rfl rfl) ?_)
        refine WL.step rfl (Stp.res rfl rfl (Res.move rfl rfl) ?_)
        refine WL.step rfl (Stp.res rfl rfl (Res.move rfl rfl) ?_)
        refine WL.step rfl (Stp.res rfl rfl (Res.idxS0 (k := i) rfl rfl rfl underlying94 sz30 (Int.toNat_natCast _) (by omega)) ?_)
        refine WL.step rfl (Stp.res rfl rfl (Res.load1 (v := y) rfl rfl underlying30 rfl (hS.cell (PH.cell_of (hGK.1 _ _ hMB) hy))) ?_)
        refine WL.step rfl (Stp.appendB (l := Seal.cat (Seal.swapped (fun i => Seal.cl (Seal.ek key use) (Seal.padTo (conf ++ text)) (i + 1)) (Seal.ceil (conf ++ text).length / 16)) i) (r := (Seal.swapped (fun i => Seal.cl (Seal.ek key use) (Seal.padTo (conf ++ text)) (i + 1)) (Seal.ceil (conf ++ text).length / 16)) i) rfl rfl rfl rfl et30 (Src.ofBs underlying30 hS (hby.mono hGK.1)) hS hown (by rw [Seal.cat_length (fun j _ => Seal.swapped_length (fun i => Seal.cl_length ..)), Seal.swapped_length (fun i => Seal.cl_length ..)]; omega) rfl rfl ?_)
        intro ov2 w g2 hS hown
        refine WL.step rfl (Stp.res rfl rfl (Res.assign rfl rfl) ?_)
        refine WL.nil (Blk_n (Thn_n ?_))
        refine CW.region ?_
        refine WL.step rfl (Stp.res rfl rfl (Res.move rfl rfl) ?_)
        refine WL.step rfl (Stp.res rfl rfl (Res.add rfl rfl rfl (by omega)) ?_)
        refine WL.step rfl (Stp.res rfl rfl (Res.assign rfl rfl) ?_)
        refine WL.nil (Thn_n ?_)
        exact ⟨(i + 1, MK, ov2, g2), ⟨rfl, rfl, rfl, rfl, rfl, rfl, rfl, trivial⟩, ⟨by dsimp only; omega, hGK, hS, hown⟩, by dsimp only; omega⟩
      · obtain rfl : i = (Seal.ceil (conf ++ text).length / 16) := by omega
        refine CW.exit (Thn_x (Thn_x (Blk_x (Thn_n ?_))))
        refine CW.seq ?_
        have hcat : Seal.cat (Seal.swapped (fun i => Seal.cl (Seal.ek key use) (Seal.padTo (conf ++ text)) (i + 1)) (Seal.ceil (conf ++ text).length / 16)) (Seal.ceil (conf ++ text).length / 16) = Seal.swapL (Seal.chain (Seal.ek key use) (conf ++ text)) := by
          rw [Seal.cat_swapped _ _ (fun i => Seal.cl_length ..), Seal.cat_co]
          rfl
        rw [hcat] at hown
        have hswl : (Seal.swapL (Seal.chain (Seal.ek key use) (conf ++ text))).length = Seal.ceil (conf ++ text).length := by rw [Seal.swapL_length, Seal.chain_length]
        obtain ⟨ob, rest, cp, hob, rfl, rfl, hd1, hd2⟩ := hown.gb (by omega)
        have hmb := hS.out (i := 0) rfl
        refine CW.region ?_
        refine WL.step rfl (Stp.res rfl rfl (Res.move rfl rfl) ?_)
        refine WL.step rfl (Stp.res rfl rfl (Res.move rfl rfl) ?_)
        refine WL.step rfl (Stp.res rfl rfl (Res.sliceHi (h := (conf ++ text).length) rfl rfl rfl underlying30 sz5 (by omega)) ?_)
        refine WL.step rfl (Stp.res rfl rfl (Res.assign rfl rfl) ?_)
        refine WL.nil (Thn_n ?_)
        refine CW.seq ?_
        have hF := hS.freezeG (i := 0) rfl hob
        obtain ⟨M8, hG8, hM8, hS⟩ : ∃ M8, Grow w0.heap.size MK M8 ∧ M8 ob = some (.cells (Gb (Seal.swapL (Seal.chain (Seal.ek key use) (conf ++ text))) rest) 5 (0, 0)) ∧ St w0 w3 M8 [] := ⟨_, hF.2, PH.add_self _ _ _, hF.1⟩
        have hbody : Bs M8 (.slice (some ⟨ob, 0, none⟩) (conf ++ text).length cp) (Seal.body (Seal.ek key use) (conf ++ text)) := Bs.ofGb hM8 (by omega) (by omega) hd2
        have hownb : OwnB w0.heap.size [(ob, .cells (Gb (Seal.swapL (Seal.chain (Seal.ek key use) (conf ++ text))) rest) 5 (0, 0))] (.slice (some ⟨ob, 0, none⟩) (conf ++ text).length cp) (Seal.body (Seal.ek key use) (conf ++ text)) 5 := OwnB.ofGbTake hob hd1 hd2 (by omega)
        refine CW.region ?_
        refine WL.step rfl (Stp.res rfl rfl (Res.move rfl rfl) ?_)
        refine WL.step rfl (Stp.res rfl rfl (Res.move rfl rfl) ?_)
        refine WL.step rfl (Stp.res rfl rfl (Res.move rfl rfl) ?_)
        refine WL.step rfl (Stp.callG (args := [_, _, _]) rfl rfl rfl cal96 rfl rfl hS (qtag_all _ _ key (Seal.body (Seal.ek key use) (conf ++ text)) use _ _ hS.on (hkey.mono (((((hG1.trans hG2).trans hG3).trans hGJ).trans hGB).trans (hGK.trans hG8)).1) hbody (by rw [Seal.body_length]; omega)) ?_)
        rintro _ w M9 hS hG9 ⟨tg, rfl, htg⟩
        rw [Seal.tagR, if_pos hg] at htg ⊢
        change Bs M9 tg (Seal.tag (Seal.ik key use) (Seal.body (Seal.ek key use) (conf ++ text))) at htg
        have hsrc := Src.ofBs (P := Tryz.prog) (u := 30) underlying30 hS htg
        have hS := hS.take (hG9.1 _ _ hM8) (hG8.trans hG9).1 hmb
        refine WL.step rfl (Stp.res rfl rfl (Res.move rfl rfl) ?_)
        refine WL.step rfl (Stp.res rfl rfl (Res.extract (l := [_, _]) rfl rfl rfl) ?_)
        refine WL.step rfl (Stp.res rfl rfl (Res.extract (l := [_, _]) rfl rfl rfl) ?_)
        refine WL.step rfl (Stp.res rfl rfl (Res.assign rfl rfl) ?_)
        refine WL.step rfl (Stp.res rfl rfl (Res.assign rfl rfl) ?_)
        refine WL.nil (Thn_n ?_)
        refine CW.seq ?_
        refine CW.region ?_
        refine WL.step rfl (Stp.res rfl rfl (Res.move rfl rfl) ?_)
        refine WL.step rfl (Stp.res rfl rfl (Res.move rfl rfl) ?_)
        refine WL.step rfl (Stp.appendB (l := Seal.body (Seal.ek key use) (conf ++ text)) (r := Seal.tag (Seal.ik key use) (Seal.body (Seal.ek key use) (conf ++ text))) rfl rfl rfl rfl et30 hsrc hS hownb (by rw [Seal.body_length, Seal.tag_length]; omega) rfl rfl ?_)
        intro fv w g3 hS hown
        obtain ⟨M10, hS, hle10, hfr10, hfin⟩ := hown.give hS
        refine WL.step rfl (Stp.res rfl rfl (Res.assign rfl rfl) ?_)
        refine WL.step rfl (Stp.res rfl rfl (Res.assign rfl rfl) ?_)
        refine WL.nil (Thn_n ?_)
        refine CW.ret ?_
        have hGA := (((((hG1.trans hG2).trans hG3).trans hGJ).trans hGB).trans hGK).trans ⟨hle10, hfr10⟩
        exact fq_tmp2 rfl rfl rfl ⟨M10, hS, hGA.1, hGA.2, fv, by rw [Seal.sealR_ok hg hc hl], by rw [Seal.sealR_ok hg hc hl]; exact hfin⟩
    · have hm1 : ¬ 1 < (Seal.ceil (conf ++ text).length / 16) := by omega
      obtain ⟨cs2, hcs2⟩ : ∃ cs2, cs2 = cs := ⟨_, rfl⟩
      rw [← hcs2] at hS hcsf
      have hsw0 : ∀ i, i < (Seal.ceil (conf ++ text).length / 16) → ∃ y, cs2[i]? = some y ∧ Bs MJ y ((Seal.swapped (fun i => Seal.cl (Seal.ek key use) (Seal.padTo (conf ++ text)) (i + 1)) (Seal.ceil (conf ++ text).length / 16)) i) := fun i hi => by
        rw [Seal.swapped, if_neg hm1]
        exact hcsf i hi
      obtain ⟨w, hww⟩ : ∃ w, w = w1 := ⟨_, rfl⟩
      rw [← hww] at hS ⊢
      obtain ⟨MB, hGB, hMB, hS⟩ : ∃ MB, Grow w0.heap.size MJ MB ∧ MB wb = some (.cells cs2 30 (0, 0)) ∧ St w0 w MB [] := by
        have hF := hS.freezeG (i := 0) rfl hwb
        exact ⟨_, hF.2, PH.add_self _ _ _, hF.1⟩
      have hsw : ∀ i, i < (Seal.ceil (conf ++ text).length / 16) → ∃ y, cs2[i]? = some y ∧ Bs MB y ((Seal.swapped (fun i => Seal.cl (Seal.ek key use) (Seal.padTo (conf ++ text)) (i + 1)) (Seal.ceil (conf ++ text).length / 16)) i) := fun i hi => by
        obtain ⟨y, e1, e2⟩ := hsw0 i hi
        exact ⟨y, e1, e2.mono hGB.1⟩
      refine CW.skip (Thn_n ?_)
      refine CW.seq ?_
      refine CW.region ?_
      refine WL.step rfl (Stp.lit (vals := []) (cs := bs []) (e := 5) rfl rfl (fun _ => by kernel_rfl) rfl rfl hS ?_)
      intro b119 w hb119 hS hkp hnw
      refine WL.step rfl (Stp.res rfl rfl (Res.assign rfl rfl) ?_)
      refine WL.nil (Thn_n ?_)
      refine CW.seq ?_
      refine CW.seq ?_
      refine CW.region ?_
      refine WL.step rfl (Stp.res rfl rfl (Res.assign rfl rfl) ?_)
      refine WL.nil (Thn_n ?_)
      refine CW.block ?_
      refine CW.loop (σ := Nat × PH × Value × Owned) (fun s_ => [(0, kv), (1, .int .i64 use), (14, .int .i64 ((conf ++ text).length : Int)), (16, .slice (some ⟨wb, 0, none⟩) (Seal.ceil (conf ++ text).length / 16) cp), (20, .int .i64 ((Seal.ceil (conf ++ text).length / 16) : Int)), (21, s_.2.2.1), (22, .int .i64 (s_.1 : Int))])
        (fun s_ w' => s_.1 ≤ (Seal.ceil (conf ++ text).length / 16) ∧ Grow w0.heap.size MB s_.2.1 ∧ St w0 w' s_.2.1 (s_.2.2.2 ++ []) ∧ OwnB w0.heap.size s_.2.2.2 s_.2.2.1 (Seal.cat (Seal.swapped (fun i => Seal.cl (Seal.ek key use) (Seal.padTo (conf ++ text)) (i + 1)) (Seal.ceil (conf ++ text).length / 16)) s_.1) 5) (fun s_ => (Seal.ceil (conf ++ text).length / 16) - s_.1) (0, MB, _, _) ⟨rfl, rfl, rfl, rfl, rfl, rfl, rfl, trivial⟩ ⟨by dsimp only; omega, Grow.refl _ _, hS, OwnB.of hb119 (Nat.le_refl 0) (by omega) [] rfl rfl⟩ ?_
      rintro ⟨i, MK, ov, g⟩ w3 ⟨hi, hGK, hS, hown⟩
      dsimp only at hi hGK hS hown ⊢
      refine CW.seq ?_
      refine CW.seq ?_
      refine CW.region ?_
      refine WL.step rfl (Stp.res rfl rfl (Res.move rfl rfl) ?_)
      refine WL.step rfl (Stp.res rfl rfl (Res.move rfl rfl) ?_)
      refine WL.step rfl (Stp.res rfl rfl (Res.lss rfl rfl rfl) ?_)
      refine WL.nil (Thn_n ?_)
      refine CW.ite rfl (fun h5 => ?_) (fun h5 => ?_)
      · have hlt5 : i < (Seal.ceil (conf ++ text).length / 16) := by omega
        obtain ⟨y, hy, hby⟩ := hsw i hlt5
        refine CW.skip (Thn_n ?_)
        refine CW.seq ?_
        refine CW.block ?_
        refine CW.region ?_
        refine WL.step rfl (Stp.res rfl rfl (Res.move rfl rfl) ?_)
        refine WL.step rfl (Stp.res rfl rfl (Res.move rfl rfl) ?_)
        refine WL.step rfl (Stp.res rfl rfl (Res.move rfl rfl) ?_)
        refine WL.step rfl (Stp.res rfl rfl (Res.idxS0 (k := i) rfl rfl rfl underlying94 sz30 (Int.toNat_natCast _) (by omega)) ?_)
        refine WL.step rfl (Stp.res rfl rfl (Res.load1 (v := y) rfl rfl underlying30 rfl (hS.cell (PH.cell_of (hGK.1 _ _ hMB) hy))) ?_)
        refine WL.step rfl (Stp.appendB (l := Seal.cat (Seal.swapped (fun i => Seal.cl (Seal.ek key use) (Seal.padTo (conf ++ text)) (i + 1)) (Seal.ceil (conf ++ text).length / 16)) i) (r := (Seal.swapped (fun i => Seal.cl (Seal.ek key use) (Seal.padTo (conf ++ text)) (i + 1)) (Seal.ceil (conf ++ text).length / 16)) i) rfl rfl rfl rfl et30 (Src.ofBs underlying30 hS (hby.mono hGK.1)) hS hown (by rw [Seal.cat_length (fun j _ => Seal.swapped_length (fun i => Seal.cl_length ..)), Seal.swapped_length (fun i => Seal.cl_length ..)]; omega) rfl rfl ?_)
        intro ov2 w g2 hS hown
        refine WL.step rfl (Stp.res rfl rfl (Res.assign rfl rfl) ?_)
        refine WL.nil (Blk_n (Thn_n ?_))
        refine CW.region ?_
        refine WL.step rfl (Stp.res rfl rfl (Res.move rfl rfl) ?_)
        refine WL.step rfl (Stp.res rfl rfl (Res.add rfl rfl rfl (by omega)) ?_)
        refine WL.step rfl (Stp.res rfl rfl (Res.assign rfl rfl) ?_)
        refine WL.nil (Thn_n ?_)
        exact ⟨(i + 1, MK, ov2, g2), ⟨rfl, rfl, rfl, rfl, rfl, rfl, rfl, trivial⟩, ⟨by dsimp only; omega, hGK, hS, hown⟩, by dsimp only; omega⟩
      · obtain rfl : i = (Seal.ceil (conf ++ text).length / 16) := by omega
        refine CW.exit (Thn_x (Thn_x (Blk_x (Thn_n ?_))))
        refine CW.seq ?_
        have hcat : Seal.cat (Seal.swapped (fun i => Seal.cl (Seal.ek key use) (Seal.padTo (conf ++ text)) (i + 1)) (Seal.ceil (conf ++ text).length / 16)) (Seal.ceil (conf ++ text).length / 16) = Seal.swapL (Seal.chain (Seal.ek key use) (conf ++ text)) := by
          rw [Seal.cat_swapped _ _ (fun i => Seal.cl_length ..), Seal.cat_co]
          rfl
        rw [hcat] at hown
        have hswl : (Seal.swapL (Seal.chain (Seal.ek key use) (conf ++ text))).length = Seal.ceil (conf ++ text).length := by rw [Seal.swapL_length, Seal.chain_length]
        obtain ⟨ob, rest, cp, hob, rfl, rfl, hd1, hd2⟩ := hown.gb (by omega)
        have hmb := hS.out (i := 0) rfl
        refine CW.region ?_
        refine WL.step rfl (Stp.res rfl rfl (Res.move rfl rfl) ?_)
        refine WL.step rfl (Stp.res rfl rfl (Res.move rfl rfl) ?_)
        refine WL.step rfl (Stp.res rfl rfl (Res.sliceHi (h := (conf ++ text).length) rfl rfl rfl underlying30 sz5 (by omega)) ?_)
        refine WL.step rfl (Stp.res rfl rfl (Res.assign rfl rfl) ?_)
        refine WL.nil (Thn_n ?_)
        refine CW.seq ?_
        have hF := hS.freezeG (i := 0) rfl hob
        obtain ⟨M8, hG8, hM8, hS⟩ : ∃ M8, Grow w0.heap.size MK M8 ∧ M8 ob = some (.cells (Gb (Seal.swapL (Seal.chain (Seal.ek key use) (conf ++ text))) rest) 5 (0, 0)) ∧ St w0 w3 M8 [] := ⟨_, hF.2, PH.add_self _ _ _, hF.1⟩
        have hbody : Bs M8 (.slice (some ⟨ob, 0, none⟩) (conf ++ text).length cp) (Seal.body (Seal.ek key use) (conf ++ text)) := Bs.ofGb hM8 (by omega) (by omega) hd2
        have hownb : OwnB w0.heap.size [(ob, .cells (Gb (Seal.swapL (Seal.chain (Seal.ek key use) (conf ++ text))) rest) 5 (0, 0))] (.slice (some ⟨ob, 0, none⟩) (conf ++ text).length cp) (Seal.body (Seal.ek key use) (conf ++ text)) 5 := OwnB.ofGbTake hob hd1 hd2 (by omega)
        refine CW.region ?_
        refine WL.step rfl (Stp.res rfl rfl (Res.move rfl rfl) ?_)
        refine WL.step rfl (Stp.res rfl rfl (Res.move rfl rfl) ?_)
        refine WL.step rfl (Stp.res rfl rfl (Res.move rfl rfl) ?_)
        refine WL.step rfl (Stp.callG (args := [_, _, _]) rfl rfl rfl cal96 rfl rfl hS (qtag_all _ _ key (Seal.body (Seal.ek key use) (conf ++ text)) use _ _ hS.on (hkey.mono (((((hG1.trans hG2).trans hG3).trans hGJ).trans hGB).trans (hGK.trans hG8)).1) hbody (by rw [Seal.body_length]; omega)) ?_)
        rintro _ w M9 hS hG9 ⟨tg, rfl, htg⟩
        rw [Seal.tagR, if_pos hg] at htg ⊢
        change Bs M9 tg (Seal.tag (Seal.ik key use) (Seal.body (Seal.ek key use) (conf ++ text))) at htg
        have hsrc := Src.ofBs (P := Tryz.prog) (u := 30) underlying30 hS htg
        have hS := hS.take (hG9.1 _ _ hM8) (hG8.trans hG9).1 hmb
        refine WL.step rfl (Stp.res rfl rfl (Res.move rfl rfl) ?_)
        refine WL.step rfl (Stp.res rfl rfl (Res.extract (l := [_, _]) rfl rfl rfl) ?_)
        refine WL.step rfl (Stp.res rfl rfl (Res.extract (l := [_, _]) rfl rfl rfl) ?_)
        refine WL.step rfl (Stp.res rfl rfl (Res.assign rfl rfl) ?_)
        refine WL.step rfl (Stp.res rfl rfl (Res.assign rfl rfl) ?_)
        refine WL.nil (Thn_n ?_)
        refine CW.seq ?_
        refine CW.region ?_
        refine WL.step rfl (Stp.res rfl rfl (Res.move rfl rfl) ?_)
        refine WL.step rfl (Stp.res rfl rfl (Res.move rfl rfl) ?_)
        refine WL.step rfl (Stp.appendB (l := Seal.body (Seal.ek key use) (conf ++ text)) (r := Seal.tag (Seal.ik key use) (Seal.body (Seal.ek key use) (conf ++ text))) rfl rfl rfl rfl et30 hsrc hS hownb (by rw [Seal.body_length, Seal.tag_length]; omega) rfl rfl ?_)
        intro fv w g3 hS hown
        obtain ⟨M10, hS, hle10, hfr10, hfin⟩ := hown.give hS
        refine WL.step rfl (Stp.res rfl rfl (Res.assign rfl rfl) ?_)
        refine WL.step rfl (Stp.res rfl rfl (Res.assign rfl rfl) ?_)
        refine WL.nil (Thn_n ?_)
        refine CW.ret ?_
        have hGA := (((((hG1.trans hG2).trans hG3).trans hGJ).trans hGB).trans hGK).trans ⟨hle10, hfr10⟩
        exact fq_tmp2 rfl rfl rfl ⟨M10, hS, hGA.1, hGA.2, fv, by rw [Seal.sealR_ok hg hc hl], by rw [Seal.sealR_ok hg hc hl]; exact hfin⟩
theorem qseal_all (kv cv tv : Value) (key conf text : List UInt8) (use : Int) (w0 : World) (M : PH) (hM : On M w0) (hkey : Bs M kv key) (hconf : Bs M cv conf) (htext : Bs M tv text) : Ok Tryz.prog 90 #[kv, .int .i64 use, cv, tv] w0 M (fun M' r => ∃ s, r = .tuple #[s, .int .i64 (Seal.sealR key use conf text).2] ∧ Bs M' s (Seal.sealR key use conf text).1) := by
  by_cases hg : Seal.Good key use
  · by_cases hc : conf.length = 16
    · by_cases hl : text.length ≤ 4096
      · exact qseal_ok kv cv tv key conf text use w0 M hM hkey hconf htext hg hc hl
      · exact qseal_long kv cv tv key conf text use w0 M hM hkey hconf htext hg hc (by omega)
    · exact qseal_conf kv cv tv key conf text use w0 M hM hkey hconf htext hg hc
  · exact qseal_bad kv cv tv key conf text use w0 M hM hkey hconf htext hg
end Go.Proofs.YtcmgimicdcchlaaGreatDoor
set_option linter.unusedVariables false
set_option maxRecDepth 20000
namespace Go.Proofs.YtcmgimicdcchlaaGreatDoor
open Go.Proofs.Tryz
open Go Go.E
end Go.Proofs.YtcmgimicdcchlaaGreatDoor
set_option linter.unusedVariables false
set_option maxRecDepth 20000
namespace Go.Proofs.YtcmgimicdcchlaaGreatDoor
open Go.Proofs.Tryz
open Go Go.E
end Go.Proofs.YtcmgimicdcchlaaGreatDoor
set_option linter.unusedVariables false
set_option maxRecDepth 20000
namespace Go.Proofs.YtcmgimicdcchlaaGreatDoor
open Go.Proofs.Tryz
open Go Go.E
end Go.Proofs.YtcmgimicdcchlaaGreatDoor
