/- Own text of this seat (QR): lemmas on the way to the statement; no condition of its own. -/
import Derived.Test.YtcmgimicdcchlaaDoorQE2
import Derived.Test.YtcmgimicdcchlaaDoorQN
set_option linter.unusedVariables false
set_option maxRecDepth 20000
namespace Go.Proofs.YtcmgimicdcchlaaDoor
open Go Go.E
theorem swap_cells {M : PH} {cs : Array Value} {f : Nat → List UInt8} {m : Nat} {y1 y2 : Value} {xs : List Value} (h1 : 1 < m) (hsz : m ≤ cs.size) (h : ∀ i, i < m → ∃ y, cs[i]? = some y ∧ Bs M y (f i)) (hy1 : xs[m - 1]? = some y1) (hb1 : Bs M y1 (f (m - 1))) (hy2 : xs[m - 2]? = some y2) (hb2 : Bs M y2 (f (m - 2))) :
    ∀ i, i < m → ∃ y, ((cs.setIfInBounds (m - 2) y1).setIfInBounds (m - 1) y2)[i]? = some y ∧ Bs M y (Seal.swapped f m i) := fun i hi => by
  rw [Seal.swapped, if_pos h1]
  by_cases e1 : i = m - 1
  · subst e1
    rw [if_neg (by omega), if_pos rfl]
    exact ⟨y2, by rw [Array.getElem?_setIfInBounds]; simp; omega, hb2⟩
  · by_cases e2 : i = m - 2
    · subst e2
      rw [if_pos rfl]
      exact ⟨y1, by rw [Array.getElem?_setIfInBounds, if_neg (by omega), Array.getElem?_setIfInBounds]; simp; omega, hb1⟩
    · rw [if_neg e2, if_neg e1]
      obtain ⟨y, q1, q2⟩ := h i hi
      exact ⟨y, by rw [Array.getElem?_setIfInBounds, if_neg (by omega), Array.getElem?_setIfInBounds, if_neg (by omega)]; exact q1, q2⟩
theorem et70 : ET Tryd.prog 70 23 (.slice none 0 0) 1 24 := ⟨Tryd.underlying70, by kernel_rfl⟩
theorem cal19 : Callable Tryd.prog 19 := ⟨Tryd.f19, Tryd.func19, rfl, by kernel_rfl⟩
theorem cal22 : Callable Tryd.prog 22 := ⟨Tryd.f22, Tryd.func22, rfl, by kernel_rfl⟩
theorem cal39 : Callable Tryd.prog 39 := ⟨Tryd.f39, Tryd.func39, rfl, by kernel_rfl⟩
theorem cal40 : Callable Tryd.prog 40 := ⟨Tryd.f40, Tryd.func40, rfl, by kernel_rfl⟩
theorem cal41 : Callable Tryd.prog 41 := ⟨Tryd.f41, Tryd.func41, rfl, by kernel_rfl⟩
theorem cal42 : Callable Tryd.prog 42 := ⟨Tryd.f42, Tryd.func42, rfl, by kernel_rfl⟩
theorem cal43 : Callable Tryd.prog 43 := ⟨Tryd.f43, Tryd.func43, rfl, by kernel_rfl⟩
end Go.Proofs.YtcmgimicdcchlaaDoor
set_option linter.unusedVariables false
set_option maxRecDepth 20000
namespace Go.Proofs.YtcmgimicdcchlaaDoor
open Go Go.E
theorem qitoa_ok (n : Nat) (w0 : World) (M : PH) (hM : On M w0) (hn : n ≤ 1000000) (h0 : 0 < n) : Ok Tryd.prog 41 #[.int .i64 (n : Int)] w0 M (fun M' r => r = str (Lib.itoa (n : Int))) := by
  have hS := hM.st
  refine enterB (l := [.int .i64 (n : Int)]) 31 Tryd.func41 rfl Tryd.ntmps41 rfl ?_
  refine CW.seq ?_
  refine CW.region ?_
  refine WL.step rfl (Stp.res rfl rfl (Res.assign rfl rfl) ?_)
  refine WL.nil (Thn_n ?_)
  refine CW.seq ?_
  refine CW.seq ?_
  refine CW.region ?_
  refine WL.step rfl (Stp.res rfl rfl (Res.move rfl rfl) ?_)
  refine WL.step rfl (Stp.res rfl rfl (Res.eql rfl rfl rfl) ?_)
  refine WL.nil (Thn_n ?_)
  refine CW.iteF rfl (by omega) ?_
  refine CW.skip (Thn_n ?_)
  refine CW.seq ?_
  refine CW.region ?_
  refine WL.step rfl (Stp.res rfl rfl (Res.move rfl rfl) ?_)
  refine WL.step rfl (Stp.res rfl rfl (Res.assign rfl rfl) ?_)
  refine WL.step rfl (Stp.res rfl rfl (Res.assign rfl rfl) ?_)
  refine WL.nil (Thn_n ?_)
  refine CW.seq ?_
  refine CW.block ?_
  refine CW.loop (σ := Nat × List UInt8 × PH) (fun s => [(0, .int .i64 (n : Int)), (3, Go.E.str s.2.1), (4, .int .i64 (s.1 : Int))])
    (fun s w' => Grow w0.heap.size M s.2.2 ∧ St w0 w' s.2.2 [] ∧ Seal.pre n = Seal.pre s.1 ++ s.2.1 ∧ s.1 + s.2.1.length ≤ n) (fun s => s.1) (n, [], M) ⟨rfl, rfl, rfl, trivial⟩ ⟨Grow.refl _ _, hS, by simp, by simp⟩ ?_
  rintro ⟨x, s, MJ⟩ w1 ⟨hGJ, hS, hpr, hle⟩
  dsimp only at hGJ hS hpr hle ⊢
  refine CW.seq ?_
  refine CW.seq ?_
  refine CW.region ?_
  refine WL.step rfl (Stp.res rfl rfl (Res.move rfl rfl) ?_)
  refine WL.step rfl (Stp.res rfl rfl (Res.neq rfl rfl rfl) ?_)
  refine WL.nil (Thn_n ?_)
  refine CW.ite rfl (fun h => ?_) (fun h => ?_)
  · have hx : 0 < x := by omega
    refine CW.skip (Thn_n ?_)
    refine CW.block ?_
    refine CW.seq ?_
    refine CW.region ?_
    refine WL.step rfl (Stp.res rfl rfl (Res.move rfl rfl) ?_)
    refine WL.step rfl (Stp.res rfl rfl (Res.cast (Res.rem rfl rfl rfl (by omega)) (v' := .int .i64 ((x % 10 : Nat) : Int)) (by congr 1)) ?_)
    refine WL.step rfl (Stp.res rfl rfl (Res.assign rfl rfl) ?_)
    refine WL.nil (Thn_n ?_)
    refine CW.seq ?_
    refine CW.seq ?_
    refine CW.region ?_
    refine WL.step rfl (Stp.res rfl rfl (Res.move rfl rfl) ?_)
    refine WL.step rfl (Stp.res rfl rfl (Res.lss rfl rfl rfl) ?_)
    refine WL.nil (Thn_n ?_)
    refine CW.iteF rfl (by omega) ?_
    refine CW.skip (Thn_n ?_)
    refine CW.seq ?_
    refine CW.region ?_
    refine WL.step rfl (Stp.res rfl rfl (Res.move rfl rfl) ?_)
    refine WL.step rfl (Stp.res rfl rfl (Res.cast (Res.add rfl rfl rfl (by omega)) (v' := .int .i64 ((48 + x % 10 : Nat) : Int)) (by congr 1)) ?_)
    refine WL.step rfl (Stp.res rfl rfl (Res.convB (k := 48 + x % 10) rfl rfl Tryd.underlying3 Tryd.underlying5) ?_)
    refine WL.step rfl (Stp.lit (vals := [(0, byte (UInt8.ofNat (48 + x % 10)))]) (cs := bs [(UInt8.ofNat (48 + x % 10))]) (e := 5) rfl rfl (fun _ => by kernel_rfl) rfl rfl hS ?_)
    intro b20 w hb20 hS hkp hnw
    have hF := hS.freezeG (i := 0) rfl hb20
    obtain ⟨M2, hG2, hone, hS⟩ : ∃ M2, Grow w0.heap.size MJ M2 ∧ Bs M2 (.slice (some ⟨b20, 0, none⟩) 1 1) [UInt8.ofNat (48 + x % 10)] ∧ St w0 w M2 [] := ⟨_, hF.2, Bs.of' (PH.add_self _ _ _) rfl (by decide), hF.1⟩
    refine WL.step rfl (Stp.res rfl rfl (Res.b2s rfl rfl hS hone Tryd.underlying23 Tryd.underlying5 Tryd.underlying9) ?_)
    refine WL.step rfl (Stp.res rfl rfl (Res.move rfl rfl) ?_)
    refine WL.step rfl (Stp.res rfl rfl (Res.addS (a := [UInt8.ofNat (48 + x % 10)]) (b := s) (by simp; omega) rfl rfl rfl) ?_)
    refine WL.step rfl (Stp.res rfl rfl (Res.assign rfl rfl) ?_)
    refine WL.nil (Thn_n ?_)
    refine CW.region ?_
    refine WL.step rfl (Stp.res rfl rfl (Res.move rfl rfl) ?_)
    refine WL.step rfl (Stp.res rfl rfl (Res.cast (Res.quo rfl rfl rfl (by omega)) (v' := .int .i64 ((x / 10 : Nat) : Int)) (by congr 1)) ?_)
    refine WL.step rfl (Stp.res rfl rfl (Res.assign rfl rfl) ?_)
    refine WL.nil (Blk_n (Thn_n ?_))
    exact ⟨(x / 10, [UInt8.ofNat (48 + x % 10)] ++ s, M2), ⟨rfl, rfl, rfl, trivial⟩, ⟨hGJ.trans hG2, hS, by dsimp only; rw [hpr, Seal.pre_step hx, List.append_assoc], by simp; omega⟩, by dsimp only; omega⟩
  · obtain rfl : x = 0 := by omega
    refine CW.exit (Thn_x (Thn_x (Blk_x (Thn_n ?_))))
    refine CW.seq ?_
    refine CW.seq ?_
    refine CW.region ?_
    refine WL.step rfl (Stp.res rfl rfl (Res.move rfl rfl) ?_)
    refine WL.step rfl (Stp.res rfl rfl (Res.lss rfl rfl rfl) ?_)
    refine WL.nil (Thn_n ?_)
    refine CW.iteF rfl (by omega) ?_
    refine CW.skip (Thn_n ?_)
    refine CW.seq ?_
    refine CW.region ?_
    refine WL.step rfl (Stp.res rfl rfl (Res.move rfl rfl) ?_)
    refine WL.step rfl (Stp.res rfl rfl (Res.assign rfl rfl) ?_)
    refine WL.nil (Thn_n ?_)
    refine CW.ret ?_
    have e0 : Lib.itoa (n : Int) = s := by
      rw [Lib.itoa, if_neg (by omega), Int.toNat_natCast]
      have h1 : Seal.pre n = Lib.decDigits n := by rw [Seal.pre, if_neg (by omega)]
      have h2 : Seal.pre 0 = [] := rfl
      rw [← h1, hpr, h2, List.nil_append]
    exact fq_tmp rfl rfl ⟨MJ, hS, hGJ.1, hGJ.2, by rw [e0]⟩

theorem qitoa_0  (w0 : World) (M : PH) (hM : On M w0)  : Ok Tryd.prog 41 #[.int .i64 0] w0 M (fun M' r => r = str (Lib.itoa 0)) := by
  have hS := hM.st
  refine enterB (l := [.int .i64 0]) 31 Tryd.func41 rfl Tryd.ntmps41 rfl ?_
  refine CW.seq ?_
  refine CW.region ?_
  refine WL.step rfl (Stp.res rfl rfl (Res.assign rfl rfl) ?_)
  refine WL.nil (Thn_n ?_)
  refine CW.seq ?_
  refine CW.seq ?_
  refine CW.region ?_
  refine WL.step rfl (Stp.res rfl rfl (Res.move rfl rfl) ?_)
  refine WL.step rfl (Stp.res rfl rfl (Res.eql rfl rfl rfl) ?_)
  refine WL.nil (Thn_n ?_)
  refine CW.iteT rfl (by omega) ?_
  refine CW.seq ?_
  refine CW.region ?_
  refine WL.step rfl (Stp.res rfl rfl (Res.assign rfl rfl) ?_)
  refine WL.nil (Thn_n ?_)
  refine CW.ret (Thn_r ?_)
  exact fq_tmp rfl rfl ⟨M, hS, PH.le.refl _, Fresh.refl _ _, by rw [Lib.itoa, if_neg (by omega), Lib.decDigits]; rfl⟩

theorem qitoa_all (u : Int) (w0 : World) (M : PH) (hM : On M w0) (h0 : 0 ≤ u) (h1 : u ≤ 1000000) : Ok Tryd.prog 41 #[.int .i64 u] w0 M (fun M' r => r = str (Lib.itoa u)) := by
  obtain ⟨n, rfl⟩ := Int.eq_ofNat_of_zero_le h0
  by_cases hz : n = 0
  · subst hz; exact qitoa_0 w0 M hM
  · exact qitoa_ok n w0 M hM (by omega) (by omega)

theorem qshort_long (v : Value) (l : List UInt8) (w0 : World) (M : PH) (hM : On M w0) (hv : Bs M v l) (hl : 4128 < l.length) : Ok Tryd.prog 15 #[v] w0 M (fun M' r => M = M' ∧ Bs M r (Seal.shortL l)) := by
  have hS := hM.st
  have hv0 := hv
  obtain ⟨va, vc, rfl, v1, v2, v3, v4⟩ := hv
  refine enterB (l := [.slice va l.length vc]) 13 Tryd.func15 rfl Tryd.ntmps15 rfl ?_
  refine CW.seq ?_
  refine CW.region ?_
  refine WL.step rfl (Stp.res rfl rfl (Res.assign rfl rfl) ?_)
  refine WL.nil (Thn_n ?_)
  refine CW.seq ?_
  refine CW.seq ?_
  refine CW.region ?_
  refine WL.step rfl (Stp.res rfl rfl (Res.move rfl rfl) ?_)
  refine WL.step rfl (Stp.res rfl rfl (Res.len rfl rfl rfl rfl Tryd.underlying23) ?_)
  refine WL.step rfl (Stp.res rfl rfl (Res.gtr rfl rfl rfl) ?_)
  refine WL.nil (Thn_n ?_)
  refine CW.iteT rfl (by omega) ?_
  refine CW.seq ?_
  refine CW.region ?_
  refine WL.step rfl (Stp.res rfl rfl (Res.move rfl rfl) ?_)
  refine WL.step rfl (Stp.res rfl rfl (Res.sliceHi (h := 4129) rfl rfl rfl Tryd.underlying23 sz5 (by omega)) ?_)
  refine WL.step rfl (Stp.res rfl rfl (Res.assign rfl rfl) ?_)
  refine WL.nil (Thn_n ?_)
  refine CW.ret (Thn_r ?_)
  exact fq_tmp rfl rfl ⟨M, hS, PH.le.refl _, Fresh.refl _ _, rfl, by rw [Seal.shortL, if_pos hl]; exact hv0.take (by omega)⟩

theorem qshort_few (v : Value) (l : List UInt8) (w0 : World) (M : PH) (hM : On M w0) (hv : Bs M v l) (hl : ¬ 4128 < l.length) : Ok Tryd.prog 15 #[v] w0 M (fun M' r => M = M' ∧ Bs M r (Seal.shortL l)) := by
  have hS := hM.st
  have hv0 := hv
  obtain ⟨va, vc, rfl, v1, v2, v3, v4⟩ := hv
  refine enterB (l := [.slice va l.length vc]) 13 Tryd.func15 rfl Tryd.ntmps15 rfl ?_
  refine CW.seq ?_
  refine CW.region ?_
  refine WL.step rfl (Stp.res rfl rfl (Res.assign rfl rfl) ?_)
  refine WL.nil (Thn_n ?_)
  refine CW.seq ?_
  refine CW.seq ?_
  refine CW.region ?_
  refine WL.step rfl (Stp.res rfl rfl (Res.move rfl rfl) ?_)
  refine WL.step rfl (Stp.res rfl rfl (Res.len rfl rfl rfl rfl Tryd.underlying23) ?_)
  refine WL.step rfl (Stp.res rfl rfl (Res.gtr rfl rfl rfl) ?_)
  refine WL.nil (Thn_n ?_)
  refine CW.iteF rfl (by omega) ?_
  refine CW.skip (Thn_n ?_)
  refine CW.seq ?_
  refine CW.region ?_
  refine WL.step rfl (Stp.res rfl rfl (Res.move rfl rfl) ?_)
  refine WL.step rfl (Stp.res rfl rfl (Res.move rfl rfl) ?_)
  refine WL.step rfl (Stp.res rfl rfl (Res.len rfl rfl rfl rfl Tryd.underlying23) ?_)
  refine WL.step rfl (Stp.res rfl rfl (Res.minN rfl rfl rfl) ?_)
  refine WL.step rfl (Stp.res rfl rfl (Res.sliceHi (h := min l.length 300) rfl rfl rfl Tryd.underlying23 sz5 (by omega)) ?_)
  refine WL.step rfl (Stp.res rfl rfl (Res.assign rfl rfl) ?_)
  refine WL.nil (Thn_n ?_)
  refine CW.ret ?_
  exact fq_tmp rfl rfl ⟨M, hS, PH.le.refl _, Fresh.refl _ _, rfl, by rw [Seal.shortL, if_neg hl]; exact hv0.take (by omega)⟩

theorem qshort_ok (v : Value) (l : List UInt8) (w0 : World) (M : PH) (hM : On M w0) (hv : Bs M v l) : Ok Tryd.prog 15 #[v] w0 M (fun M' r => M = M' ∧ Bs M r (Seal.shortL l)) := by
  by_cases h : 4128 < l.length
  · exact qshort_long v l w0 M hM hv h
  · exact qshort_few v l w0 M hM hv h
end Go.Proofs.YtcmgimicdcchlaaDoor
set_option linter.unusedVariables false
set_option maxRecDepth 20000
namespace Go.Proofs.YtcmgimicdcchlaaDoor
open Go Go.E
theorem qkeys_no1 (kv : Value) (key : List UInt8) (use : Int) (w0 : World) (M : PH) (hM : On M w0) (hkey : Bs M kv key) (hk : ¬ key.length = 16) : Ok Tryd.prog 19 #[kv, .int .i64 use] w0 M (fun M' r => M = M' ∧ r = .tuple #[.slice none 0 0, .slice none 0 0, .int .i64 2]) := by
  have hS := hM.st
  have hkey0 := hkey
  obtain ⟨ka, kc, rfl, k1, k2, k3, k4⟩ := hkey
  refine enterB (l := [.slice ka key.length kc, .int .i64 use]) 40 Tryd.func19 rfl Tryd.ntmps19 rfl ?_
  refine CW.seq ?_
  refine CW.region ?_
  refine WL.step rfl (Stp.res rfl rfl (Res.assign rfl rfl) ?_)
  refine WL.step rfl (Stp.res rfl rfl (Res.assign rfl rfl) ?_)
  refine WL.step rfl (Stp.res rfl rfl (Res.assign rfl rfl) ?_)
  refine WL.nil (Thn_n ?_)
  refine CW.seq ?_
  refine CW.seq ?_
  refine CW.region ?_
  refine WL.step rfl (Stp.res rfl rfl (Res.move rfl rfl) ?_)
  refine WL.step rfl (Stp.res rfl rfl (Res.len rfl rfl rfl rfl Tryd.underlying23) ?_)
  refine WL.step rfl (Stp.res rfl rfl (Res.to (Res.neq rfl rfl rfl) (by omega)) ?_)
  refine WL.step rfl (Stp.res rfl rfl (Res.move rfl rfl) ?_)
  refine WL.skipG 3 false rfl rfl rfl rfl rfl rfl ?_
  refine WL.skipG 3 false rfl rfl rfl rfl rfl rfl ?_
  refine WL.step rfl (Stp.res rfl rfl (Res.pickT rfl rfl rfl) ?_)
  refine WL.step rfl (Stp.res rfl rfl (Res.move rfl rfl) ?_)
  refine WL.skipG 7 false rfl rfl rfl rfl rfl rfl ?_
  refine WL.skipG 7 false rfl rfl rfl rfl rfl rfl ?_
  refine WL.step rfl (Stp.res rfl rfl (Res.pickT rfl rfl rfl) ?_)
  refine WL.nil (Thn_n ?_)
  refine CW.condT rfl ?_
  refine CW.seq ?_
  refine CW.region ?_
  refine WL.step rfl (Stp.res rfl rfl (Res.assign rfl rfl) ?_)
  refine WL.step rfl (Stp.res rfl rfl (Res.assign rfl rfl) ?_)
  refine WL.step rfl (Stp.res rfl rfl (Res.assign rfl rfl) ?_)
  refine WL.nil (Thn_n ?_)
  refine CW.ret (Thn_r ?_)
  exact fq_tmp3 rfl rfl rfl rfl ⟨M, hS, PH.le.refl _, Fresh.refl _ _, rfl, rfl⟩

theorem qkeys_no2 (kv : Value) (key : List UInt8) (use : Int) (w0 : World) (M : PH) (hM : On M w0) (hkey : Bs M kv key) (hk : key.length = 16) (h0 : use < 0) : Ok Tryd.prog 19 #[kv, .int .i64 use] w0 M (fun M' r => M = M' ∧ r = .tuple #[.slice none 0 0, .slice none 0 0, .int .i64 2]) := by
  have hS := hM.st
  have hkey0 := hkey
  obtain ⟨ka, kc, rfl, k1, k2, k3, k4⟩ := hkey
  refine enterB (l := [.slice ka key.length kc, .int .i64 use]) 40 Tryd.func19 rfl Tryd.ntmps19 rfl ?_
  refine CW.seq ?_
  refine CW.region ?_
  refine WL.step rfl (Stp.res rfl rfl (Res.assign rfl rfl) ?_)
  refine WL.step rfl (Stp.res rfl rfl (Res.assign rfl rfl) ?_)
  refine WL.step rfl (Stp.res rfl rfl (Res.assign rfl rfl) ?_)
  refine WL.nil (Thn_n ?_)
  refine CW.seq ?_
  refine CW.seq ?_
  refine CW.region ?_
  refine WL.step rfl (Stp.res rfl rfl (Res.move rfl rfl) ?_)
  refine WL.step rfl (Stp.res rfl rfl (Res.len rfl rfl rfl rfl Tryd.underlying23) ?_)
  refine WL.step rfl (Stp.res rfl rfl (Res.toF (Res.neq rfl rfl rfl) (by omega)) ?_)
  refine WL.step rfl (Stp.res rfl rfl (Res.move rfl rfl) ?_)
  refine WL.stepG 3 false rfl rfl rfl rfl (Stp.res rfl rfl (Res.move rfl rfl) ?_)
  refine WL.stepG 3 false rfl rfl rfl rfl (Stp.res rfl rfl (Res.to (Res.lss rfl rfl rfl) (by omega)) ?_)
  refine WL.step rfl (Stp.res rfl rfl (Res.pickF rfl rfl rfl) ?_)
  refine WL.step rfl (Stp.res rfl rfl (Res.move rfl rfl) ?_)
  refine WL.skipG 7 false rfl rfl rfl rfl rfl rfl ?_
  refine WL.skipG 7 false rfl rfl rfl rfl rfl rfl ?_
  refine WL.step rfl (Stp.res rfl rfl (Res.pickT rfl rfl rfl) ?_)
  refine WL.nil (Thn_n ?_)
  refine CW.condT rfl ?_
  refine CW.seq ?_
  refine CW.region ?_
  refine WL.step rfl (Stp.res rfl rfl (Res.assign rfl rfl) ?_)
  refine WL.step rfl (Stp.res rfl rfl (Res.assign rfl rfl) ?_)
  refine WL.step rfl (Stp.res rfl rfl (Res.assign rfl rfl) ?_)
  refine WL.nil (Thn_n ?_)
  refine CW.ret (Thn_r ?_)
  exact fq_tmp3 rfl rfl rfl rfl ⟨M, hS, PH.le.refl _, Fresh.refl _ _, rfl, rfl⟩

theorem qkeys_no3 (kv : Value) (key : List UInt8) (use : Int) (w0 : World) (M : PH) (hM : On M w0) (hkey : Bs M kv key) (hk : key.length = 16) (h0 : 0 ≤ use) (h1 : 256 ≤ use) : Ok Tryd.prog 19 #[kv, .int .i64 use] w0 M (fun M' r => M = M' ∧ r = .tuple #[.slice none 0 0, .slice none 0 0, .int .i64 2]) := by
  have hS := hM.st
  have hkey0 := hkey
  obtain ⟨ka, kc, rfl, k1, k2, k3, k4⟩ := hkey
  refine enterB (l := [.slice ka key.length kc, .int .i64 use]) 40 Tryd.func19 rfl Tryd.ntmps19 rfl ?_
  refine CW.seq ?_
  refine CW.region ?_
  refine WL.step rfl (Stp.res rfl rfl (Res.assign rfl rfl) ?_)
  refine WL.step rfl (Stp.res rfl rfl (Res.assign rfl rfl) ?_)
  refine WL.step rfl (Stp.res rfl rfl (Res.assign rfl rfl) ?_)
  refine WL.nil (Thn_n ?_)
  refine CW.seq ?_
  refine CW.seq ?_
  refine CW.region ?_
  refine WL.step rfl (Stp.res rfl rfl (Res.move rfl rfl) ?_)
  refine WL.step rfl (Stp.res rfl rfl (Res.len rfl rfl rfl rfl Tryd.underlying23) ?_)
  refine WL.step rfl (Stp.res rfl rfl (Res.toF (Res.neq rfl rfl rfl) (by omega)) ?_)
  refine WL.step rfl (Stp.res rfl rfl (Res.move rfl rfl) ?_)
  refine WL.stepG 3 false rfl rfl rfl rfl (Stp.res rfl rfl (Res.move rfl rfl) ?_)
  refine WL.stepG 3 false rfl rfl rfl rfl (Stp.res rfl rfl (Res.toF (Res.lss rfl rfl rfl) (by omega)) ?_)
  refine WL.step rfl (Stp.res rfl rfl (Res.pickF rfl rfl rfl) ?_)
  refine WL.step rfl (Stp.res rfl rfl (Res.move rfl rfl) ?_)
  refine WL.stepG 7 false rfl rfl rfl rfl (Stp.res rfl rfl (Res.move rfl rfl) ?_)
  refine WL.stepG 7 false rfl rfl rfl rfl (Stp.res rfl rfl (Res.to (Res.gtr rfl rfl rfl) (by omega)) ?_)
  refine WL.step rfl (Stp.res rfl rfl (Res.pickF rfl rfl rfl) ?_)
  refine WL.nil (Thn_n ?_)
  refine CW.condT rfl ?_
  refine CW.seq ?_
  refine CW.region ?_
  refine WL.step rfl (Stp.res rfl rfl (Res.assign rfl rfl) ?_)
  refine WL.step rfl (Stp.res rfl rfl (Res.assign rfl rfl) ?_)
  refine WL.step rfl (Stp.res rfl rfl (Res.assign rfl rfl) ?_)
  refine WL.nil (Thn_n ?_)
  refine CW.ret (Thn_r ?_)
  exact fq_tmp3 rfl rfl rfl rfl ⟨M, hS, PH.le.refl _, Fresh.refl _ _, rfl, rfl⟩

theorem qkeys_no (kv : Value) (key : List UInt8) (use : Int) (w0 : World) (M : PH) (hM : On M w0) (hkey : Bs M kv key) (hg : ¬ Seal.Good key use) : Ok Tryd.prog 19 #[kv, .int .i64 use] w0 M (fun M' r => M = M' ∧ r = .tuple #[.slice none 0 0, .slice none 0 0, .int .i64 2]) := by
  by_cases h1 : key.length = 16
  · by_cases h2 : use < 0
    · exact qkeys_no2 kv key use w0 M hM hkey h1 h2
    · by_cases h3 : 256 ≤ use
      · exact qkeys_no3 kv key use w0 M hM hkey h1 (by omega) h3
      · exact absurd ⟨h1, by omega, by omega⟩ hg
  · exact qkeys_no1 kv key use w0 M hM hkey h1

theorem qkeys_yes (kv : Value) (key : List UInt8) (use : Int) (w0 : World) (M : PH) (hM : On M w0) (hkey : Bs M kv key) (hg : Seal.Good key use) : Ok Tryd.prog 19 #[kv, .int .i64 use] w0 M (fun M' r => ∃ s t, r = .tuple #[s, t, .int .i64 0] ∧ Bs M' s (Seal.ek key use) ∧ Bs M' t (Seal.ik key use)) := by
  have hS := hM.st
  have hkey0 := hkey
  obtain ⟨ka, kc, rfl, k1, k2, k3, k4⟩ := hkey
  obtain ⟨hk, h0, h1⟩ := hg
  have hil := itoa_len h0 h1
  refine enterB (l := [.slice ka key.length kc, .int .i64 use]) 40 Tryd.func19 rfl Tryd.ntmps19 rfl ?_
  refine CW.seq ?_
  refine CW.region ?_
  refine WL.step rfl (Stp.res rfl rfl (Res.assign rfl rfl) ?_)
  refine WL.step rfl (Stp.res rfl rfl (Res.assign rfl rfl) ?_)
  refine WL.step rfl (Stp.res rfl rfl (Res.assign rfl rfl) ?_)
  refine WL.nil (Thn_n ?_)
  refine CW.seq ?_
  refine CW.seq ?_
  refine CW.region ?_
  refine WL.step rfl (Stp.res rfl rfl (Res.move rfl rfl) ?_)
  refine WL.step rfl (Stp.res rfl rfl (Res.len rfl rfl rfl rfl Tryd.underlying23) ?_)
  refine WL.step rfl (Stp.res rfl rfl (Res.toF (Res.neq rfl rfl rfl) (by omega)) ?_)
  refine WL.step rfl (Stp.res rfl rfl (Res.move rfl rfl) ?_)
  refine WL.stepG 3 false rfl rfl rfl rfl (Stp.res rfl rfl (Res.move rfl rfl) ?_)
  refine WL.stepG 3 false rfl rfl rfl rfl (Stp.res rfl rfl (Res.toF (Res.lss rfl rfl rfl) (by omega)) ?_)
  refine WL.step rfl (Stp.res rfl rfl (Res.pickF rfl rfl rfl) ?_)
  refine WL.step rfl (Stp.res rfl rfl (Res.move rfl rfl) ?_)
  refine WL.stepG 7 false rfl rfl rfl rfl (Stp.res rfl rfl (Res.move rfl rfl) ?_)
  refine WL.stepG 7 false rfl rfl rfl rfl (Stp.res rfl rfl (Res.toF (Res.gtr rfl rfl rfl) (by omega)) ?_)
  refine WL.step rfl (Stp.res rfl rfl (Res.pickF rfl rfl rfl) ?_)
  refine WL.nil (Thn_n ?_)
  refine CW.condF rfl ?_
  refine CW.skip (Thn_n ?_)
  refine CW.seq ?_
  refine CW.region ?_
  refine WL.step rfl (Stp.res rfl rfl (Res.move rfl rfl) ?_)
  refine WL.step rfl (Stp.res rfl rfl (Res.move rfl rfl) ?_)
  refine WL.step rfl (Stp.callG (args := [_]) rfl rfl rfl cal41 rfl rfl hS (qitoa_all use _ _ hS.on (by omega) (by omega)) ?_)
  rintro _ w MI1 hS hGI1 rfl
  refine WL.step rfl (Stp.res rfl rfl (Res.addS (a := [101]) (by simp; omega) rfl rfl rfl) ?_)
  refine WL.step rfl (Stp.callG (args := [_, _, _]) rfl rfl rfl cal40 rfl rfl hS (qexpand_ok _ key ([101] ++ Lib.itoa use) 16 _ _ hS.on (hkey0.mono hGI1.1) (by omega) (by simp; omega) (by decide)) ?_)
  rintro _ w M1 hS hG1 ⟨s, rfl, hs⟩
  refine WL.step rfl (Stp.res rfl rfl (Res.move rfl rfl) ?_)
  refine WL.step rfl (Stp.res rfl rfl (Res.extract (l := [_, _]) rfl rfl rfl) ?_)
  refine WL.step rfl (Stp.res rfl rfl (Res.extract (l := [_, _]) rfl rfl rfl) ?_)
  refine WL.step rfl (Stp.res rfl rfl (Res.assign rfl rfl) ?_)
  refine WL.step rfl (Stp.res rfl rfl (Res.assign rfl rfl) ?_)
  refine WL.nil (Thn_n ?_)
  refine CW.seq ?_
  refine CW.region ?_
  refine WL.step rfl (Stp.res rfl rfl (Res.move rfl rfl) ?_)
  refine WL.step rfl (Stp.res rfl rfl (Res.move rfl rfl) ?_)
  refine WL.step rfl (Stp.callG (args := [_]) rfl rfl rfl cal41 rfl rfl hS (qitoa_all use _ _ hS.on (by omega) (by omega)) ?_)
  rintro _ w MI2 hS hGI2 rfl
  refine WL.step rfl (Stp.res rfl rfl (Res.addS (a := [105]) (by simp; omega) rfl rfl rfl) ?_)
  refine WL.step rfl (Stp.callG (args := [_, _, _]) rfl rfl rfl cal40 rfl rfl hS (qexpand_ok _ key ([105] ++ Lib.itoa use) 16 _ _ hS.on (hkey0.mono ((hGI1.trans hG1).trans hGI2).1) (by omega) (by simp; omega) (by decide)) ?_)
  rintro _ w M2 hS hG2 ⟨t, rfl, ht⟩
  refine WL.step rfl (Stp.res rfl rfl (Res.move rfl rfl) ?_)
  refine WL.step rfl (Stp.res rfl rfl (Res.extract (l := [_, _]) rfl rfl rfl) ?_)
  refine WL.step rfl (Stp.res rfl rfl (Res.extract (l := [_, _]) rfl rfl rfl) ?_)
  refine WL.step rfl (Stp.res rfl rfl (Res.assign rfl rfl) ?_)
  refine WL.step rfl (Stp.res rfl rfl (Res.assign rfl rfl) ?_)
  refine WL.nil (Thn_n ?_)
  refine CW.seq ?_
  refine CW.region ?_
  refine WL.step rfl (Stp.res rfl rfl (Res.move rfl rfl) ?_)
  refine WL.step rfl (Stp.res rfl rfl (Res.move rfl rfl) ?_)
  refine WL.step rfl (Stp.res rfl rfl (Res.assign rfl rfl) ?_)
  refine WL.step rfl (Stp.res rfl rfl (Res.assign rfl rfl) ?_)
  refine WL.step rfl (Stp.res rfl rfl (Res.assign rfl rfl) ?_)
  refine WL.nil (Thn_n ?_)
  refine CW.ret ?_
  exact fq_tmp3 rfl rfl rfl rfl ⟨M2, hS, ((((hGI1.trans hG1).trans hGI2).trans hG2)).1, ((((hGI1.trans hG1).trans hGI2).trans hG2)).2, _, _, rfl, hs.mono (hGI2.trans hG2).1, ht⟩

theorem qkeys_all (kv : Value) (key : List UInt8) (use : Int) (w0 : World) (M : PH) (hM : On M w0) (hkey : Bs M kv key) : Ok Tryd.prog 19 #[kv, .int .i64 use] w0 M (fun M' r => ∃ s t, r = .tuple #[s, t, .int .i64 (Seal.keysR key use).2.2] ∧ Bs M' s (Seal.keysR key use).1 ∧ Bs M' t (Seal.keysR key use).2.1) := by
  by_cases hg : Seal.Good key use
  · rw [Seal.keysR, if_pos hg]
    exact qkeys_yes kv key use w0 M hM hkey hg
  · rw [Seal.keysR, if_neg hg]
    refine (qkeys_no kv key use w0 M hM hkey hg).mono fun e w' ⟨v, M', h1, h2, h3, h4, h5, h6⟩ => ?_
    subst h6
    exact ⟨_, M', h1, h2, h3, h4, _, _, rfl, Bs.nil _, Bs.nil _⟩

theorem Keys_all (kv : Value) (key : List UInt8) (use : Int) (w0 : World) (M : PH) (hM : On M w0) (hgl : GL M) (hkey : Bs M kv key) : Ok Tryd.prog 18 #[kv, .int .i64 use] w0 M (fun M' r => ∃ s t, r = .tuple #[s, t, .int .i64 (Seal.keysR key use).2.2] ∧ Bs M' s (Seal.keysR key use).1 ∧ Bs M' t (Seal.keysR key use).2.1) := by
  by_cases hg : Seal.Good key use
  · exact Keys_yes kv key use w0 M hM hgl hkey hg
  · exact Keys_no kv key use w0 M hM hgl hkey hg
end Go.Proofs.YtcmgimicdcchlaaDoor
set_option linter.unusedVariables false
set_option maxRecDepth 20000
namespace Go.Proofs.YtcmgimicdcchlaaDoor
open Go Go.E
theorem qtag_no (kv v : Value) (key b : List UInt8) (use : Int) (w0 : World) (M : PH) (hM : On M w0) (hkey : Bs M kv key) (hb : Bs M v b) (hg : ¬ Seal.Good key use) : Ok Tryd.prog 22 #[kv, .int .i64 use, v] w0 M (fun M' r => ∃ s, r = .tuple #[s, .int .i64 (Seal.tagR key use b).2] ∧ Bs M' s (Seal.tagR key use b).1) := by
  have hS := hM.st
  have hb0 := hb
  obtain ⟨va, vc, rfl, v1, v2, v3, v4⟩ := hb
  refine enterB (l := [kv, .int .i64 use, .slice va b.length vc]) 30 Tryd.func22 rfl Tryd.ntmps22 rfl ?_
  refine CW.seq ?_
  refine CW.region ?_
  refine WL.step rfl (Stp.res rfl rfl (Res.assign rfl rfl) ?_)
  refine WL.step rfl (Stp.res rfl rfl (Res.assign rfl rfl) ?_)
  refine WL.nil (Thn_n ?_)
  refine CW.seq ?_
  refine CW.region ?_
  refine WL.step rfl (Stp.res rfl rfl (Res.move rfl rfl) ?_)
  refine WL.step rfl (Stp.res rfl rfl (Res.move rfl rfl) ?_)
  refine WL.step rfl (Stp.callG (args := [_, _]) rfl rfl rfl cal19 rfl rfl hS (qkeys_no _ key use _ _ hS.on hkey hg) ?_)
  rintro _ w _ hS _ ⟨rfl, rfl⟩
  refine WL.step rfl (Stp.res rfl rfl (Res.move rfl rfl) ?_)
  refine WL.step rfl (Stp.res rfl rfl (Res.extract (l := [_, _, _]) rfl rfl rfl) ?_)
  refine WL.step rfl (Stp.res rfl rfl (Res.extract (l := [_, _, _]) rfl rfl rfl) ?_)
  refine WL.step rfl (Stp.res rfl rfl (Res.extract (l := [_, _, _]) rfl rfl rfl) ?_)
  refine WL.step rfl (Stp.res rfl rfl (Res.assign rfl rfl) ?_)
  refine WL.step rfl (Stp.res rfl rfl (Res.assign rfl rfl) ?_)
  refine WL.step rfl (Stp.res rfl rfl (Res.assign rfl rfl) ?_)
  refine WL.nil (Thn_n ?_)
  refine CW.seq ?_
  refine CW.seq ?_
  refine CW.region ?_
  refine WL.step rfl (Stp.res rfl rfl (Res.move rfl rfl) ?_)
  refine WL.step rfl (Stp.res rfl rfl (Res.neq rfl rfl rfl) ?_)
  refine WL.nil (Thn_n ?_)
  refine CW.iteT rfl (by omega) ?_
  refine CW.seq ?_
  refine CW.region ?_
  refine WL.step rfl (Stp.res rfl rfl (Res.move rfl rfl) ?_)
  refine WL.step rfl (Stp.res rfl rfl (Res.assign rfl rfl) ?_)
  refine WL.step rfl (Stp.res rfl rfl (Res.assign rfl rfl) ?_)
  refine WL.nil (Thn_n ?_)
  refine CW.ret (Thn_r ?_)
  exact fq_tmp2 rfl rfl rfl ⟨M, hS, PH.le.refl _, Fresh.refl _ _, _, by rw [Seal.tagR, if_neg hg], by rw [Seal.tagR, if_neg hg]; exact Bs.nil _⟩

theorem qtag_yes (kv v : Value) (key b : List UInt8) (use : Int) (w0 : World) (M : PH) (hM : On M w0) (hkey : Bs M kv key) (hb : Bs M v b) (hg : Seal.Good key use) (hlen : b.length ≤ 1000000) : Ok Tryd.prog 22 #[kv, .int .i64 use, v] w0 M (fun M' r => ∃ s, r = .tuple #[s, .int .i64 (Seal.tagR key use b).2] ∧ Bs M' s (Seal.tagR key use b).1) := by
  have hS := hM.st
  have hb0 := hb
  obtain ⟨va, vc, rfl, v1, v2, v3, v4⟩ := hb
  refine enterB (l := [kv, .int .i64 use, .slice va b.length vc]) 30 Tryd.func22 rfl Tryd.ntmps22 rfl ?_
  refine CW.seq ?_
  refine CW.region ?_
  refine WL.step rfl (Stp.res rfl rfl (Res.assign rfl rfl) ?_)
  refine WL.step rfl (Stp.res rfl rfl (Res.assign rfl rfl) ?_)
  refine WL.nil (Thn_n ?_)
  refine CW.seq ?_
  refine CW.region ?_
  refine WL.step rfl (Stp.res rfl rfl (Res.move rfl rfl) ?_)
  refine WL.step rfl (Stp.res rfl rfl (Res.move rfl rfl) ?_)
  refine WL.step rfl (Stp.callG (args := [_, _]) rfl rfl rfl cal19 rfl rfl hS (qkeys_yes _ key use _ _ hS.on hkey hg) ?_)
  rintro _ w M1 hS hG1 ⟨s, t, rfl, hs, ht⟩
  refine WL.step rfl (Stp.res rfl rfl (Res.move rfl rfl) ?_)
  refine WL.step rfl (Stp.res rfl rfl (Res.extract (l := [_, _, _]) rfl rfl rfl) ?_)
  refine WL.step rfl (Stp.res rfl rfl (Res.extract (l := [_, _, _]) rfl rfl rfl) ?_)
  refine WL.step rfl (Stp.res rfl rfl (Res.extract (l := [_, _, _]) rfl rfl rfl) ?_)
  refine WL.step rfl (Stp.res rfl rfl (Res.assign rfl rfl) ?_)
  refine WL.step rfl (Stp.res rfl rfl (Res.assign rfl rfl) ?_)
  refine WL.step rfl (Stp.res rfl rfl (Res.assign rfl rfl) ?_)
  refine WL.nil (Thn_n ?_)
  refine CW.seq ?_
  refine CW.seq ?_
  refine CW.region ?_
  refine WL.step rfl (Stp.res rfl rfl (Res.move rfl rfl) ?_)
  refine WL.step rfl (Stp.res rfl rfl (Res.neq rfl rfl rfl) ?_)
  refine WL.nil (Thn_n ?_)
  refine CW.iteF rfl (by omega) ?_
  refine CW.skip (Thn_n ?_)
  refine CW.seq ?_
  refine CW.region ?_
  refine WL.step rfl (Stp.res rfl rfl (Res.move rfl rfl) ?_)
  refine WL.step rfl (Stp.makeB (k := 16) (c := 16) rfl rfl rfl et23 ⟨Nat.le_refl 16, by decide⟩ rfl rfl hS ?_)
  intro b23 w hb23 hS hkp hnw
  refine WL.step rfl (Stp.res rfl rfl (Res.move rfl rfl) ?_)
  refine WL.step rfl (Stp.appendB (l := List.replicate 16 0) (r := b) rfl rfl rfl rfl et23 (Src.ofBs Tryd.underlying23 hS (hb0.mono hG1.1)) hS (OwnB.of hb23 (Nat.le_refl 16) (by omega) (List.replicate 16 0) (List.length_replicate ..) (by simp)) (by simp; omega) rfl rfl ?_)
  intro v2 w g2 hS hown
  obtain ⟨M2, hS, hle2, hfr2, hmsg⟩ := hown.give hS
  have hG2 : Grow w0.heap.size M1 M2 := ⟨hle2, hfr2⟩
  refine WL.step rfl (Stp.callG (args := [_, _]) rfl rfl rfl cal44 rfl rfl hS (qmac_ok _ _ (Seal.ik key use) (List.replicate 16 0 ++ b) _ _ hS.on (ht.mono hG2.1) hmsg (by rw [Seal.ik_length]; omega) (by simp; omega)) ?_)
  rintro _ w _ hS _ ⟨rfl, rfl⟩
  refine WL.step rfl (Stp.alloc (cs := bs (List.replicate 32 0)) rfl z73 rfl rfl rfl hS ?_)
  intro b11 w hb11 hS hkp hnw
  refine WL.step rfl (Stp.storeAllB 0 rfl rfl rfl sz73 rfl hS rfl ⟨List.length_replicate .., Mac.sum_length _ _⟩ ?_)
  intro w hS hpt
  refine WL.nil (Thn_n ?_)
  refine CW.seq ?_
  have hF := hS.freezeG (i := 0) rfl hb11
  obtain ⟨M3, hG3, hdg, hS⟩ : ∃ M3, Grow w0.heap.size M2 M3 ∧ Bs M3 (.slice (some ⟨b11, 0, none⟩) 16 32) (Seal.tag (Seal.ik key use) b) ∧ St w0 w M3 [] := ⟨_, hF.2, (Bs.of' (k := 32) (PH.add_self _ _ _) (Mac.sum_length _ _) (by omega)).take (by rw [Mac.sum_length]; omega), hF.1⟩
  refine CW.region ?_
  refine WL.step rfl (Stp.lit (vals := []) (cs := bs []) (e := 5) rfl rfl (fun _ => by kernel_rfl) rfl rfl hS ?_)
  intro b27 w hb27 hS hkp hnw
  refine WL.step rfl (Stp.res rfl rfl (Res.sliceAHi (h := 16) rfl rfl rfl Tryd.underlying73 sz5 (by decide)) ?_)
  refine WL.step rfl (Stp.appendB (l := []) (r := Seal.tag (Seal.ik key use) b) rfl rfl rfl rfl et23 (by have h := Src.ofBs (P := Tryd.prog) (u := 23) Tryd.underlying23 hS hdg; rw [show (Seal.tag (Seal.ik key use) b).length = 16 from Seal.tag_length _ _] at *; exact h) hS (OwnB.of hb27 (Nat.le_refl 0) (by omega) [] rfl rfl) (by simp) rfl rfl ?_)
  intro v3 w g3 hS hown
  obtain ⟨M4, hS, hle4, hfr4, hfin⟩ := hown.give hS
  refine WL.step rfl (Stp.res rfl rfl (Res.assign rfl rfl) ?_)
  refine WL.step rfl (Stp.res rfl rfl (Res.assign rfl rfl) ?_)
  refine WL.nil (Thn_n ?_)
  refine CW.ret ?_
  have hGA := ((hG1.trans hG2).trans hG3).trans ⟨hle4, hfr4⟩
  exact fq_tmp2 rfl rfl rfl ⟨M4, hS, hGA.1, hGA.2, _, by rw [Seal.tagR, if_pos hg], by rw [Seal.tagR, if_pos hg]; exact hfin⟩

theorem qtag_all (kv v : Value) (key b : List UInt8) (use : Int) (w0 : World) (M : PH) (hM : On M w0) (hkey : Bs M kv key) (hb : Bs M v b) (hlen : b.length ≤ 1000000) : Ok Tryd.prog 22 #[kv, .int .i64 use, v] w0 M (fun M' r => ∃ s, r = .tuple #[s, .int .i64 (Seal.tagR key use b).2] ∧ Bs M' s (Seal.tagR key use b).1) := by
  by_cases hq : Seal.Good key use
  · exact qtag_yes kv v key b use w0 M hM hkey hb hq hlen
  · exact qtag_no kv v key b use w0 M hM hkey hb hq

theorem qxor_ok (v u : Value) (a b : List UInt8) (w0 : World) (M : PH) (hM : On M w0) (hv : Bs M v a) (hu : Bs M u b) (ha : a.length = 16) (hb : b.length = 16) : Ok Tryd.prog 43 #[v, u] w0 M (fun M' r => Bs M' r (Aes.xorB a b)) := by
  have hS := hM.st
  obtain ⟨vb, vo, vc, rfl, vc1, vc2, vcell⟩ := hv.at (by omega)
  obtain ⟨ub, uo, uc, rfl, uc1, uc2, ucell⟩ := hu.at (by omega)
  refine enterB (l := [.slice (some ⟨vb, vo, none⟩) a.length vc, .slice (some ⟨ub, uo, none⟩) b.length uc]) 25 Tryd.func43 rfl Tryd.ntmps43 rfl ?_
  refine CW.seq ?_
  refine CW.region ?_
  refine WL.step rfl (Stp.res rfl rfl (Res.assign rfl rfl) ?_)
  refine WL.nil (Thn_n ?_)
  refine CW.seq ?_
  refine CW.region ?_
  refine WL.step rfl (Stp.makeB (k := 16) (c := 16) rfl rfl rfl et23 ⟨Nat.le_refl 16, by decide⟩ rfl rfl hS ?_)
  intro b7 w hb7 hS hkp hnw
  refine WL.step rfl (Stp.res rfl rfl (Res.assign rfl rfl) ?_)
  refine WL.nil (Thn_n ?_)
  refine CW.seq ?_
  refine CW.seq ?_
  refine CW.region ?_
  refine WL.step rfl (Stp.res rfl rfl (Res.assign rfl rfl) ?_)
  refine WL.nil (Thn_n ?_)
  refine CW.block ?_
  refine CW.loop (σ := Nat) (fun i => [(0, .slice (some ⟨vb, vo, none⟩) a.length vc), (1, .slice (some ⟨ub, uo, none⟩) b.length uc), (5, .slice (some ⟨b7, 0, none⟩) 16 16), (6, .int .i64 (i : Int))])
    (fun i w' => i ≤ 16 ∧ St w0 w' M [(b7, .cells (bs (Aes.upTo i (fun j => a.getD j 0 ^^^ b.getD j 0) (List.replicate 16 0))) 5 (0, 0))]) (fun i => 16 - i) 0 ⟨rfl, rfl, rfl, rfl, trivial⟩ ⟨by omega, by rw [Aes.upTo_zero]; exact hS⟩ ?_
  rintro i w1 ⟨hi, hS⟩
  refine CW.seq ?_
  refine CW.seq ?_
  refine CW.region ?_
  refine WL.step rfl (Stp.res rfl rfl (Res.move rfl rfl) ?_)
  refine WL.step rfl (Stp.res rfl rfl (Res.lss rfl rfl rfl) ?_)
  refine WL.nil (Thn_n ?_)
  refine CW.ite rfl (fun h => ?_) (fun h => ?_)
  · obtain hlt : i < 16 := by omega
    refine CW.skip (Thn_n ?_)
    refine CW.seq ?_
    refine CW.block ?_
    have hS := hS.drew
    refine CW.tail 12 mixed (by kernel_rfl) ?_
    refine SL.step rfl rfl rfl (Res.move rfl rfl) ?_
    refine SL.step rfl rfl rfl (Res.move rfl rfl) ?_
    refine SL.step rfl rfl rfl (Res.move rfl rfl) ?_
    refine SL.step rfl rfl rfl (Res.move rfl rfl) ?_
    refine SL.step rfl rfl rfl (Res.idxS1 (k := i) rfl rfl rfl Tryd.underlying23 sz5 (Int.toNat_natCast _) (by omega)) ?_
    refine SL.step rfl rfl rfl (Res.load1 rfl rfl Tryd.underlying5 rfl (hS.cell (vcell _ (by omega)))) ?_
    refine SL.step rfl rfl rfl (Res.move rfl rfl) ?_
    refine SL.step rfl rfl rfl (Res.move rfl rfl) ?_
    refine SL.step rfl rfl rfl (Res.idxS1 (k := i) rfl rfl rfl Tryd.underlying23 sz5 (Int.toNat_natCast _) (by omega)) ?_
    refine SL.step rfl rfl rfl (Res.load1 rfl rfl Tryd.underlying5 rfl (hS.cell (ucell _ (by omega)))) ?_
    refine SL.step rfl rfl rfl (Res.xorB _ rfl rfl rfl) ?_
    first | refine SL.step rfl rfl rfl (Res.idxS0 rfl rfl rfl Tryd.underlying23 sz5 (by first | exact Int.toNat_natCast _ | rfl) (by omega)) ?_ | refine SL.step rfl rfl rfl (Res.idxS1 rfl rfl rfl Tryd.underlying23 sz5 (by first | exact Int.toNat_natCast _ | rfl) (by omega)) ?_
    refine SL.nil ?_
    first | refine WL.step rfl (Stp.storeB 0 rfl rfl rfl sz5 rfl hS rfl (by first | omega | (simp; done) | (simp; omega)) ?_) | refine WL.step rfl (Stp.storeB 1 rfl rfl rfl sz5 rfl hS rfl (by first | omega | (simp; done) | (simp; omega)) ?_) | refine WL.step rfl (Stp.storeB 2 rfl rfl rfl sz5 rfl hS rfl (by first | omega | (simp; done) | (simp; omega)) ?_)
    intro w hS hpt
    refine WL.nil (Blk_n (Thn_n ?_))
    refine CW.region ?_
    refine WL.step rfl (Stp.res rfl rfl (Res.move rfl rfl) ?_)
    refine WL.step rfl (Stp.res rfl rfl (Res.add rfl rfl rfl (by omega)) ?_)
    refine WL.step rfl (Stp.res rfl rfl (Res.assign rfl rfl) ?_)
    refine WL.nil (Thn_n ?_)
    refine ⟨i + 1, ⟨rfl, rfl, rfl, rfl, trivial⟩, ⟨by omega, ?_⟩, by omega⟩
    rw [← Aes.upTo_set]
    exact hS
  · obtain rfl : i = 16 := by omega
    refine CW.exit (Thn_x (Thn_x (Blk_x (Thn_n ?_))))
    refine CW.seq ?_
    refine CW.region ?_
    refine WL.step rfl (Stp.res rfl rfl (Res.move rfl rfl) ?_)
    refine WL.step rfl (Stp.res rfl rfl (Res.assign rfl rfl) ?_)
    refine WL.nil (Thn_n ?_)
    refine CW.ret ?_
    rw [Aes.upTo_all _ _ 16 (List.length_replicate ..)] at hS
    have hF := hS.freeze (i := 0) rfl hb7
    exact fq_tmp rfl rfl ⟨_, hF.1, hF.2, Fresh.add _ hb7, Bs.of' (PH.add_self _ _ _) (Aes.xorB_length a b) (by omega)⟩
end Go.Proofs.YtcmgimicdcchlaaDoor
set_option linter.unusedVariables false
set_option maxRecDepth 20000
namespace Go.Proofs.YtcmgimicdcchlaaDoor
open Go Go.E
theorem qseal_bad (kv cv tv : Value) (key conf text : List UInt8) (use : Int) (w0 : World) (M : PH) (hM : On M w0) (hkey : Bs M kv key) (hconf : Bs M cv conf) (htext : Bs M tv text) (hg : ¬ Seal.Good key use) : Ok Tryd.prog 17 #[kv, .int .i64 use, cv, tv] w0 M (fun M' r => ∃ s, r = .tuple #[s, .int .i64 (Seal.sealR key use conf text).2] ∧ Bs M' s (Seal.sealR key use conf text).1) := by
  have hS := hM.st
  have hconf0 := hconf
  have htext0 := htext
  obtain ⟨ca, cc, rfl, c1, c2, c3, c4⟩ := hconf
  obtain ⟨xa, xc, rfl, x1, x2, x3, x4⟩ := htext
  refine enterB (l := [kv, .int .i64 use, .slice ca conf.length cc, .slice xa text.length xc]) 144 Tryd.func17 rfl Tryd.ntmps17 rfl ?_
  refine CW.seq ?_
  refine CW.region ?_
  refine WL.step rfl (Stp.res rfl rfl (Res.assign rfl rfl) ?_)
  refine WL.step rfl (Stp.res rfl rfl (Res.assign rfl rfl) ?_)
  refine WL.nil (Thn_n ?_)
  refine CW.seq ?_
  refine CW.region ?_
  refine WL.step rfl (Stp.res rfl rfl (Res.move rfl rfl) ?_)
  refine WL.step rfl (Stp.res rfl rfl (Res.move rfl rfl) ?_)
  refine WL.step rfl (Stp.callG (args := [_, _]) rfl rfl rfl cal19 rfl rfl hS (qkeys_no _ key use _ _ hS.on hkey hg) ?_)
  rintro _ w _ hS _ ⟨rfl, rfl⟩
  refine WL.step rfl (Stp.res rfl rfl (Res.move rfl rfl) ?_)
  refine WL.step rfl (Stp.res rfl rfl (Res.extract (l := [_, _, _]) rfl rfl rfl) ?_)
  refine WL.step rfl (Stp.res rfl rfl (Res.extract (l := [_, _, _]) rfl rfl rfl) ?_)
  refine WL.step rfl (Stp.res rfl rfl (Res.extract (l := [_, _, _]) rfl rfl rfl) ?_)
  refine WL.step rfl (Stp.res rfl rfl (Res.assign rfl rfl) ?_)
  refine WL.step rfl (Stp.res rfl rfl (Res.assign rfl rfl) ?_)
  refine WL.step rfl (Stp.res rfl rfl (Res.assign rfl rfl) ?_)
  refine WL.nil (Thn_n ?_)
  refine CW.seq ?_
  refine CW.seq ?_
  refine CW.region ?_
  refine WL.step rfl (Stp.res rfl rfl (Res.move rfl rfl) ?_)
  refine WL.step rfl (Stp.res rfl rfl (Res.to (Res.neq rfl rfl rfl) (by decide)) ?_)
  refine WL.step rfl (Stp.res rfl rfl (Res.move rfl rfl) ?_)
  refine WL.skipG 2 false rfl rfl rfl rfl rfl rfl ?_
  refine WL.skipG 2 false rfl rfl rfl rfl rfl rfl ?_
  refine WL.skipG 2 false rfl rfl rfl rfl rfl rfl ?_
  refine WL.step rfl (Stp.res rfl rfl (Res.pickT rfl rfl rfl) ?_)
  refine WL.nil (Thn_n ?_)
  refine CW.condT rfl ?_
  refine CW.seq ?_
  refine CW.region ?_
  refine WL.step rfl (Stp.res rfl rfl (Res.assign rfl rfl) ?_)
  refine WL.step rfl (Stp.res rfl rfl (Res.assign rfl rfl) ?_)
  refine WL.nil (Thn_n ?_)
  refine CW.ret (Thn_r ?_)
  exact fq_tmp2 rfl rfl rfl ⟨M, hS, PH.le.refl _, Fresh.refl _ _, _, by rw [Seal.sealR, if_neg (fun h => hg h.1)], by rw [Seal.sealR, if_neg (fun h => hg h.1)]; exact Bs.nil _⟩

theorem qseal_conf (kv cv tv : Value) (key conf text : List UInt8) (use : Int) (w0 : World) (M : PH) (hM : On M w0) (hkey : Bs M kv key) (hconf : Bs M cv conf) (htext : Bs M tv text) (hg : Seal.Good key use) (hc : ¬ conf.length = 16) : Ok Tryd.prog 17 #[kv, .int .i64 use, cv, tv] w0 M (fun M' r => ∃ s, r = .tuple #[s, .int .i64 (Seal.sealR key use conf text).2] ∧ Bs M' s (Seal.sealR key use conf text).1) := by
  have hS := hM.st
  have hconf0 := hconf
  have htext0 := htext
  obtain ⟨ca, cc, rfl, c1, c2, c3, c4⟩ := hconf
  obtain ⟨xa, xc, rfl, x1, x2, x3, x4⟩ := htext
  refine enterB (l := [kv, .int .i64 use, .slice ca conf.length cc, .slice xa text.length xc]) 144 Tryd.func17 rfl Tryd.ntmps17 rfl ?_
  refine CW.seq ?_
  refine CW.region ?_
  refine WL.step rfl (Stp.res rfl rfl (Res.assign rfl rfl) ?_)
  refine WL.step rfl (Stp.res rfl rfl (Res.assign rfl rfl) ?_)
  refine WL.nil (Thn_n ?_)
  refine CW.seq ?_
  refine CW.region ?_
  refine WL.step rfl (Stp.res rfl rfl (Res.move rfl rfl) ?_)
  refine WL.step rfl (Stp.res rfl rfl (Res.move rfl rfl) ?_)
  refine WL.step rfl (Stp.callG (args := [_, _]) rfl rfl rfl cal19 rfl rfl hS (qkeys_yes _ key use _ _ hS.on hkey hg) ?_)
  rintro _ w M1 hS hG1 ⟨s, t, rfl, hs, ht⟩
  refine WL.step rfl (Stp.res rfl rfl (Res.move rfl rfl) ?_)
  refine WL.step rfl (Stp.res rfl rfl (Res.extract (l := [_, _, _]) rfl rfl rfl) ?_)
  refine WL.step rfl (Stp.res rfl rfl (Res.extract (l := [_, _, _]) rfl rfl rfl) ?_)
  refine WL.step rfl (Stp.res rfl rfl (Res.extract (l := [_, _, _]) rfl rfl rfl) ?_)
  refine WL.step rfl (Stp.res rfl rfl (Res.assign rfl rfl) ?_)
  refine WL.step rfl (Stp.res rfl rfl (Res.assign rfl rfl) ?_)
  refine WL.step rfl (Stp.res rfl rfl (Res.assign rfl rfl) ?_)
  refine WL.nil (Thn_n ?_)
  refine CW.seq ?_
  refine CW.seq ?_
  refine CW.region ?_
  refine WL.step rfl (Stp.res rfl rfl (Res.move rfl rfl) ?_)
  refine WL.step rfl (Stp.res rfl rfl (Res.toF (Res.neq rfl rfl rfl) (by decide)) ?_)
  refine WL.step rfl (Stp.res rfl rfl (Res.move rfl rfl) ?_)
  refine WL.stepG 2 false rfl rfl rfl rfl (Stp.res rfl rfl (Res.move rfl rfl) ?_)
  refine WL.stepG 2 false rfl rfl rfl rfl (Stp.res rfl rfl (Res.len rfl rfl rfl rfl Tryd.underlying23) ?_)
  refine WL.stepG 2 false rfl rfl rfl rfl (Stp.res rfl rfl (Res.to (Res.neq rfl rfl rfl) (by omega)) ?_)
  refine WL.step rfl (Stp.res rfl rfl (Res.pickF rfl rfl rfl) ?_)
  refine WL.nil (Thn_n ?_)
  refine CW.condT rfl ?_
  refine CW.seq ?_
  refine CW.region ?_
  refine WL.step rfl (Stp.res rfl rfl (Res.assign rfl rfl) ?_)
  refine WL.step rfl (Stp.res rfl rfl (Res.assign rfl rfl) ?_)
  refine WL.nil (Thn_n ?_)
  refine CW.ret (Thn_r ?_)
  exact fq_tmp2 rfl rfl rfl ⟨M1, hS, hG1.1, hG1.2, _, by rw [Seal.sealR, if_neg (fun h => hc h.2)], by rw [Seal.sealR, if_neg (fun h => hc h.2)]; exact Bs.nil _⟩

theorem qseal_long (kv cv tv : Value) (key conf text : List UInt8) (use : Int) (w0 : World) (M : PH) (hM : On M w0) (hkey : Bs M kv key) (hconf : Bs M cv conf) (htext : Bs M tv text) (hg : Seal.Good key use) (hc : conf.length = 16) (hl : 4096 < text.length) : Ok Tryd.prog 17 #[kv, .int .i64 use, cv, tv] w0 M (fun M' r => ∃ s, r = .tuple #[s, .int .i64 (Seal.sealR key use conf text).2] ∧ Bs M' s (Seal.sealR key use conf text).1) := by
  have hS := hM.st
  have hconf0 := hconf
  have htext0 := htext
  obtain ⟨ca, cc, rfl, c1, c2, c3, c4⟩ := hconf
  obtain ⟨xa, xc, rfl, x1, x2, x3, x4⟩ := htext
  refine enterB (l := [kv, .int .i64 use, .slice ca conf.length cc, .slice xa text.length xc]) 144 Tryd.func17 rfl Tryd.ntmps17 rfl ?_
  refine CW.seq ?_
  refine CW.region ?_
  refine WL.step rfl (Stp.res rfl rfl (Res.assign rfl rfl) ?_)
  refine WL.step rfl (Stp.res rfl rfl (Res.assign rfl rfl) ?_)
  refine WL.nil (Thn_n ?_)
  refine CW.seq ?_
  refine CW.region ?_
  refine WL.step rfl (Stp.res rfl rfl (Res.move rfl rfl) ?_)
  refine WL.step rfl (Stp.res rfl rfl (Res.move rfl rfl) ?_)
  refine WL.step rfl (Stp.callG (args := [_, _]) rfl rfl rfl cal19 rfl rfl hS (qkeys_yes _ key use _ _ hS.on hkey hg) ?_)
  rintro _ w M1 hS hG1 ⟨s, t, rfl, hs, ht⟩
  refine WL.step rfl (Stp.res rfl rfl (Res.move rfl rfl) ?_)
  refine WL.step rfl (Stp.res rfl rfl (Res.extract (l := [_, _, _]) rfl rfl rfl) ?_)
  refine WL.step rfl (Stp.res rfl rfl (Res.extract (l := [_, _, _]) rfl rfl rfl) ?_)
  refine WL.step rfl (Stp.res rfl rfl (Res.extract (l := [_, _, _]) rfl rfl rfl) ?_)
  refine WL.step rfl (Stp.res rfl rfl (Res.assign rfl rfl) ?_)
  refine WL.step rfl (Stp.res rfl rfl (Res.assign rfl rfl) ?_)
  refine WL.step rfl (Stp.res rfl rfl (Res.assign rfl rfl) ?_)
  refine WL.nil (Thn_n ?_)
  refine CW.seq ?_
  refine CW.seq ?_
  refine CW.region ?_
  refine WL.step rfl (Stp.res rfl rfl (Res.move rfl rfl) ?_)
  refine WL.step rfl (Stp.res rfl rfl (Res.toF (Res.neq rfl rfl rfl) (by decide)) ?_)
  refine WL.step rfl (Stp.res rfl rfl (Res.move rfl rfl) ?_)
  refine WL.stepG 2 false rfl rfl rfl rfl (Stp.res rfl rfl (Res.move rfl rfl) ?_)
  refine WL.stepG 2 false rfl rfl rfl rfl (Stp.res rfl rfl (Res.len rfl rfl rfl rfl Tryd.underlying23) ?_)
  refine WL.stepG 2 false rfl rfl rfl rfl (Stp.res rfl rfl (Res.toF (Res.neq rfl rfl rfl) (by omega)) ?_)
  refine WL.step rfl (Stp.res rfl rfl (Res.pickF rfl rfl rfl) ?_)
  refine WL.nil (Thn_n ?_)
  refine CW.condF rfl ?_
  refine CW.skip (Thn_n ?_)
  refine CW.seq ?_
  refine CW.seq ?_
  refine CW.region ?_
  refine WL.step rfl (Stp.res rfl rfl (Res.move rfl rfl) ?_)
  refine WL.step rfl (Stp.res rfl rfl (Res.len rfl rfl rfl rfl Tryd.underlying23) ?_)
  refine WL.step rfl (Stp.res rfl rfl (Res.gtr rfl rfl rfl) ?_)
  refine WL.nil (Thn_n ?_)
  refine CW.iteT rfl (by omega) ?_
  refine CW.seq ?_
  refine CW.region ?_
  refine WL.step rfl (Stp.res rfl rfl (Res.assign rfl rfl) ?_)
  refine WL.step rfl (Stp.res rfl rfl (Res.assign rfl rfl) ?_)
  refine WL.nil (Thn_n ?_)
  refine CW.ret (Thn_r ?_)
  exact fq_tmp2 rfl rfl rfl ⟨M1, hS, hG1.1, hG1.2, _, by rw [Seal.sealR, if_pos ⟨hg, hc⟩, if_neg (by omega)], by rw [Seal.sealR, if_pos ⟨hg, hc⟩, if_neg (by omega)]; exact Bs.nil _⟩
end Go.Proofs.YtcmgimicdcchlaaDoor
set_option linter.unusedVariables false
set_option maxRecDepth 20000
namespace Go.Proofs.YtcmgimicdcchlaaDoor
open Go Go.E
theorem qseal_ok (kv cv tv : Value) (key conf text : List UInt8) (use : Int) (w0 : World) (M : PH) (hM : On M w0) (hkey : Bs M kv key) (hconf : Bs M cv conf) (htext : Bs M tv text) (hg : Seal.Good key use) (hc : conf.length = 16) (hl : text.length ≤ 4096) : Ok Tryd.prog 17 #[kv, .int .i64 use, cv, tv] w0 M (fun M' r => ∃ s, r = .tuple #[s, .int .i64 (Seal.sealR key use conf text).2] ∧ Bs M' s (Seal.sealR key use conf text).1) := by
  have hS := hM.st
  have hconf0 := hconf
  have htext0 := htext
  obtain ⟨ca, cc, rfl, c1, c2, c3, c4⟩ := hconf
  obtain ⟨xa, xc, rfl, x1, x2, x3, x4⟩ := htext
  have hnl : (conf ++ text).length = conf.length + text.length := List.length_append ..
  have hcg := Seal.ceil_ge (conf ++ text).length
  have hBl : (Seal.padTo (conf ++ text)).length = Seal.ceil (conf ++ text).length := Seal.padTo_length _
  refine enterB (l := [kv, .int .i64 use, .slice ca conf.length cc, .slice xa text.length xc]) 144 Tryd.func17 rfl Tryd.ntmps17 rfl ?_
  refine CW.seq ?_
  refine CW.region ?_
  refine WL.step rfl (Stp.res rfl rfl (Res.assign rfl rfl) ?_)
  refine WL.step rfl (Stp.res rfl rfl (Res.assign rfl rfl) ?_)
  refine WL.nil (Thn_n ?_)
  refine CW.seq ?_
  refine CW.region ?_
  refine WL.step rfl (Stp.res rfl rfl (Res.move rfl rfl) ?_)
  refine WL.step rfl (Stp.res rfl rfl (Res.move rfl rfl) ?_)
  refine WL.step rfl (Stp.callG (args := [_, _]) rfl rfl rfl cal19 rfl rfl hS (qkeys_yes _ key use _ _ hS.on hkey hg) ?_)
  rintro _ w M1 hS hG1 ⟨s, t, rfl, hs, ht⟩
  refine WL.step rfl (Stp.res rfl rfl (Res.move rfl rfl) ?_)
  refine WL.step rfl (Stp.res rfl rfl (Res.extract (l := [_, _, _]) rfl rfl rfl) ?_)
  refine WL.step rfl (Stp.res rfl rfl (Res.extract (l := [_, _, _]) rfl rfl rfl) ?_)
  refine WL.step rfl (Stp.res rfl rfl (Res.extract (l := [_, _, _]) rfl rfl rfl) ?_)
  refine WL.step rfl (Stp.res rfl rfl (Res.assign rfl rfl) ?_)
  refine WL.step rfl (Stp.res rfl rfl (Res.assign rfl rfl) ?_)
  refine WL.step rfl (Stp.res rfl rfl (Res.assign rfl rfl) ?_)
  refine WL.nil (Thn_n ?_)
  refine CW.seq ?_
  refine CW.seq ?_
  refine CW.region ?_
  refine WL.step rfl (Stp.res rfl rfl (Res.move rfl rfl) ?_)
  refine WL.step rfl (Stp.res rfl rfl (Res.toF (Res.neq rfl rfl rfl) (by decide)) ?_)
  refine WL.step rfl (Stp.res rfl rfl (Res.move rfl rfl) ?_)
  refine WL.stepG 2 false rfl rfl rfl rfl (Stp.res rfl rfl (Res.move rfl rfl) ?_)
  refine WL.stepG 2 false rfl rfl rfl rfl (Stp.res rfl rfl (Res.len rfl rfl rfl rfl Tryd.underlying23) ?_)
  refine WL.stepG 2 false rfl rfl rfl rfl (Stp.res rfl rfl (Res.toF (Res.neq rfl rfl rfl) (by omega)) ?_)
  refine WL.step rfl (Stp.res rfl rfl (Res.pickF rfl rfl rfl) ?_)
  refine WL.nil (Thn_n ?_)
  refine CW.condF rfl ?_
  refine CW.skip (Thn_n ?_)
  refine CW.seq ?_
  refine CW.seq ?_
  refine CW.region ?_
  refine WL.step rfl (Stp.res rfl rfl (Res.move rfl rfl) ?_)
  refine WL.step rfl (Stp.res rfl rfl (Res.len rfl rfl rfl rfl Tryd.underlying23) ?_)
  refine WL.step rfl (Stp.res rfl rfl (Res.gtr rfl rfl rfl) ?_)
  refine WL.nil (Thn_n ?_)
  refine CW.iteF rfl (by omega) ?_
  refine CW.skip (Thn_n ?_)
  refine CW.seq ?_
  refine CW.region ?_
  refine WL.step rfl (Stp.lit (vals := []) (cs := bs []) (e := 5) rfl rfl (fun _ => by kernel_rfl) rfl rfl hS ?_)
  intro b42 w hb42 hS hkp hnw
  refine WL.step rfl (Stp.res rfl rfl (Res.move rfl rfl) ?_)
  refine WL.step rfl (Stp.appendB (l := []) (r := conf) rfl rfl rfl rfl et23 (Src.ofBs Tryd.underlying23 hS (hconf0.mono hG1.1)) hS (OwnB.of hb42 (Nat.le_refl 0) (by omega) [] rfl rfl) (by simp; omega) rfl rfl ?_)
  intro av w g1 hS hown
  refine WL.step rfl (Stp.res rfl rfl (Res.move rfl rfl) ?_)
  refine WL.step rfl (Stp.appendB (l := [] ++ conf) (r := text) rfl rfl rfl rfl et23 (Src.ofBs Tryd.underlying23 hS (htext0.mono hG1.1)) hS hown (by simp; omega) rfl rfl ?_)
  intro av2 w g2 hS hown
  obtain ⟨M2, hS, hle2, hfr2, hall⟩ := hown.give hS
  have hG2 : Grow w0.heap.size M1 M2 := ⟨hle2, hfr2⟩
  change Bs M2 av2 (conf ++ text) at hall
  refine WL.step rfl (Stp.res rfl rfl (Res.assign rfl rfl) ?_)
  refine WL.nil (Thn_n ?_)
  refine CW.seq ?_
  obtain ⟨lb, lo, lc, rfl, l1, l2, lcell⟩ := hall.at (by omega)
  refine CW.region ?_
  refine WL.step rfl (Stp.res rfl rfl (Res.move rfl rfl) ?_)
  refine WL.step rfl (Stp.res rfl rfl (Res.len rfl rfl rfl rfl Tryd.underlying23) ?_)
  refine WL.step rfl (Stp.res rfl rfl (Res.assign rfl rfl) ?_)
  refine WL.nil (Thn_n ?_)
  refine CW.seq ?_
  refine CW.region ?_
  refine WL.step rfl (Stp.makeB (k := 16) (c := 16) rfl rfl rfl et23 ⟨Nat.le_refl 16, by decide⟩ rfl rfl hS ?_)
  intro b49 w hb49 hS hkp hnw
  refine WL.step rfl (Stp.res rfl rfl (Res.assign rfl rfl) ?_)
  refine WL.nil (Thn_n ?_)
  refine CW.seq ?_
  have hF := hS.freezeG (i := 0) rfl hb49
  obtain ⟨M3, hG3, hz, hS⟩ : ∃ M3, Grow w0.heap.size M2 M3 ∧ Bs M3 (.slice (some ⟨b49, 0, none⟩) 16 16) (List.replicate 16 0) ∧ St w0 w M3 [] := ⟨_, hF.2, Bs.of' (PH.add_self _ _ _) (List.length_replicate ..) (by omega), hF.1⟩
  refine CW.region ?_
  refine WL.step rfl (Stp.lit (vals := []) (cs := #[]) (e := 23) rfl rfl (fun _ => by kernel_rfl) rfl rfl hS ?_)
  intro b50 w hb50 hS hkp hnw
  refine WL.step rfl (Stp.res rfl rfl (Res.assign rfl rfl) ?_)
  refine WL.nil (Thn_n ?_)
  refine CW.seq ?_
  refine CW.seq ?_
  have hown := own_nil0 w0.heap.size b50 23 hb50
  refine CW.region ?_
  refine WL.step rfl (Stp.res rfl rfl (Res.assign rfl rfl) ?_)
  refine WL.nil (Thn_n ?_)
  refine CW.block ?_
  refine CW.loop (σ := Nat × PH × Value × Value × Owned × List Value) (fun s_ => [(0, kv), (1, .int .i64 use), (10, s), (13, .slice (some ⟨lb, lo, none⟩) (conf ++ text).length lc), (14, .int .i64 ((conf ++ text).length : Int)), (15, s_.2.2.1), (16, s_.2.2.2.1), (17, .int .i64 ((16 * s_.1 : Nat) : Int))])
    (fun s_ w' => 16 * s_.1 < (conf ++ text).length + 16 ∧ Grow w0.heap.size M3 s_.2.1 ∧ St w0 w' s_.2.1 (s_.2.2.2.2.1 ++ []) ∧ Bs s_.2.1 s_.2.2.1 (Seal.cl (Seal.ek key use) (Seal.padTo (conf ++ text)) s_.1) ∧ Own w0.heap.size s_.2.2.2.2.1 s_.2.2.2.1 s_.1 1 s_.2.2.2.2.2 23 ∧ Bl s_.2.1 s_.2.2.2.2.2 (fun i => Seal.cl (Seal.ek key use) (Seal.padTo (conf ++ text)) (i + 1)) s_.1) (fun s_ => (conf ++ text).length + 16 - 16 * s_.1) (0, M3, _, _, _, []) ⟨rfl, rfl, rfl, rfl, rfl, rfl, rfl, rfl, trivial⟩ ⟨by dsimp only; omega, Grow.refl _ _, hS, hz, hown, Bl.nil _ _⟩ ?_
  rintro ⟨j, MJ, lv, bv, g, xs⟩ w1 ⟨hj, hGJ, hS, hlast, hown, hbl⟩
  dsimp only at hj hGJ hS hlast hown hbl ⊢
  refine CW.seq ?_
  refine CW.seq ?_
  refine CW.region ?_
  refine WL.step rfl (Stp.res rfl rfl (Res.move rfl rfl) ?_)
  refine WL.step rfl (Stp.res rfl rfl (Res.move rfl rfl) ?_)
  refine WL.step rfl (Stp.res rfl rfl (Res.lss rfl rfl rfl) ?_)
  refine WL.nil (Thn_n ?_)
  refine CW.ite rfl (fun h => ?_) (fun h => ?_)
  · have hlt : 16 * j < (conf ++ text).length := by omega
    refine CW.skip (Thn_n ?_)
    refine CW.seq ?_
    refine CW.block ?_
    refine CW.seq ?_
    obtain ⟨OO, hOO⟩ : ∃ OO, OO = g ++ [] := ⟨_, rfl⟩
    rw [← hOO] at hS
    obtain ⟨qb, qo, qc, rfl, q1, q2, qcell⟩ := hlast.at (by rw [Seal.cl_length]; decide)
    refine CW.region ?_
    refine WL.step rfl (Stp.makeB (k := 16) (c := 16) rfl rfl rfl et23 ⟨Nat.le_refl 16, by decide⟩ rfl rfl hS ?_)
    intro b56 w hb56 hS hkp hnw
    refine WL.step rfl (Stp.res rfl rfl (Res.assign rfl rfl) ?_)
    refine WL.nil (Thn_n ?_)
    refine CW.seq ?_
    refine CW.seq ?_
    refine CW.region ?_
    refine WL.step rfl (Stp.res rfl rfl (Res.assign rfl rfl) ?_)
    refine WL.nil (Thn_n ?_)
    refine CW.block ?_
    refine CW.loop (σ := Nat) (fun i => [(0, kv), (1, .int .i64 use), (10, s), (13, .slice (some ⟨lb, lo, none⟩) (conf ++ text).length lc), (14, .int .i64 ((conf ++ text).length : Int)), (15, .slice (some ⟨qb, qo, none⟩) (Seal.cl (Seal.ek key use) (Seal.padTo (conf ++ text)) j).length qc), (16, bv), (17, .int .i64 ((16 * j : Nat) : Int)), (18, .slice (some ⟨b56, 0, none⟩) 16 16), (19, .int .i64 (i : Int))])
      (fun i w' => i ≤ 16 ∧ St w0 w' MJ ((b56, .cells (bs (Aes.upTo i (fun i => (Seal.cl (Seal.ek key use) (Seal.padTo (conf ++ text)) j).getD i 0 ^^^ (Seal.padTo (conf ++ text)).getD (16 * j + i) 0) (List.replicate 16 0))) 5 (0, 0)) :: OO)) (fun i => 16 - i) 0 ⟨rfl, rfl, rfl, rfl, rfl, rfl, rfl, rfl, rfl, rfl, trivial⟩ ⟨by omega, by rw [Aes.upTo_zero]; exact hS⟩ ?_
    rintro i w2 ⟨hi, hS⟩
    refine CW.seq ?_
    refine CW.seq ?_
    refine CW.region ?_
    refine WL.step rfl (Stp.res rfl rfl (Res.move rfl rfl) ?_)
    refine WL.step rfl (Stp.res rfl rfl (Res.lss rfl rfl rfl) ?_)
    refine WL.nil (Thn_n ?_)
    refine CW.ite rfl (fun h2 => ?_) (fun h2 => ?_)
    · have hlt2 : i < 16 := by omega
      refine CW.skip (Thn_n ?_)
      refine CW.seq ?_
      refine CW.block ?_
      refine CW.seq ?_
      refine CW.region ?_
      refine WL.step rfl (Stp.res rfl rfl (Res.move rfl rfl) ?_)
      refine WL.step rfl (Stp.res rfl rfl (Res.move rfl rfl) ?_)
      refine WL.step rfl (Stp.res rfl rfl (Res.move rfl rfl) ?_)
      refine WL.step rfl (Stp.res rfl rfl (Res.move rfl rfl) ?_)
      refine WL.step rfl (Stp.res rfl rfl (Res.idxS1 (k := i) rfl rfl rfl Tryd.underlying23 sz5 (Int.toNat_natCast _) (by rw [Seal.cl_length]; omega)) ?_)
      refine WL.step rfl (Stp.res rfl rfl (Res.load1 rfl rfl Tryd.underlying5 rfl (hS.cell (qcell _ (by rw [Seal.cl_length]; omega)))) ?_)
      refine WL.step rfl (Stp.res rfl rfl (Res.idxS0 (k := i) rfl rfl rfl Tryd.underlying23 sz5 (Int.toNat_natCast _) (by omega)) ?_)
      refine WL.step rfl (Stp.storeB 0 rfl rfl rfl sz5 rfl hS rfl (by simp; omega) ?_)
      intro w hS hpt
      change St w0 w MJ ((b56, .cells (bs ((Aes.upTo i (fun i => (Seal.cl (Seal.ek key use) (Seal.padTo (conf ++ text)) j).getD i 0 ^^^ (Seal.padTo (conf ++ text)).getD (16 * j + i) 0) (List.replicate 16 0)).set i ((Seal.cl (Seal.ek key use) (Seal.padTo (conf ++ text)) j).getD i 0))) 5 (0, 0)) :: OO) at hS
      refine WL.nil (Thn_n ?_)
      refine CW.seq ?_
      refine CW.region ?_
      refine WL.step rfl (Stp.res rfl rfl (Res.move rfl rfl) ?_)
      refine WL.step rfl (Stp.res rfl rfl (Res.move rfl rfl) ?_)
      refine WL.step rfl (Stp.res rfl rfl (Res.add rfl rfl rfl (by omega)) ?_)
      refine WL.step rfl (Stp.res rfl rfl (Res.move rfl rfl) ?_)
      refine WL.step rfl (Stp.res rfl rfl (Res.lss rfl rfl rfl) ?_)
      refine WL.nil (Thn_n ?_)
      refine CW.ite rfl (fun h3 => ?_) (fun h3 => ?_)
      · have hin : 16 * j + i < (conf ++ text).length := by omega
        have hS := hS.drew
        have hK0 := And.intro (hS.get (i := 0) rfl) hS.on
        refine CW.last (fun w => w.heap[b56]? = some (.cells (bs ((Aes.upTo i (fun i => (Seal.cl (Seal.ek key use) (Seal.padTo (conf ++ text)) j).getD i 0 ^^^ (Seal.padTo (conf ++ text)).getD (16 * j + i) 0) (List.replicate 16 0)).set i ((Seal.cl (Seal.ek key use) (Seal.padTo (conf ++ text)) j).getD i 0))) 5 (0, 0)) ∧ On MJ w) [14] mixed ?_
        refine ZL.take 0 rfl (by kernel_rfl) rfl rfl rfl hK0 (fun w hK => Res.move rfl rfl) ?_
        refine ZL.take 1 rfl (by kernel_rfl) rfl rfl rfl hK0 (fun w hK => Res.move rfl rfl) ?_
        refine ZL.take 2 rfl (by kernel_rfl) rfl rfl rfl hK0 (fun w hK => Res.move rfl rfl) ?_
        refine ZL.take 3 rfl (by kernel_rfl) rfl rfl rfl hK0 (fun w hK => Res.move rfl rfl) ?_
        refine ZL.take 4 rfl (by kernel_rfl) rfl rfl rfl hK0 (fun w hK => Res.idxS0 (k := i) rfl rfl rfl Tryd.underlying23 sz5 (Int.toNat_natCast _) (by omega)) ?_
        refine ZL.take 5 rfl (by kernel_rfl) rfl rfl rfl hK0 (fun w hK => Res.load1 (v := byte ((Seal.cl (Seal.ek key use) (Seal.padTo (conf ++ text)) j).getD i 0)) rfl rfl Tryd.underlying5 rfl (w := w) (by rw [cell_of hK.1]; exact (bs_get (by simp; omega)).trans (by congr 2; simp [List.getD, show i < 16 by omega]))) ?_
        refine ZL.take 6 rfl (by kernel_rfl) rfl rfl rfl hK0 (fun w hK => Res.move rfl rfl) ?_
        refine ZL.take 7 rfl (by kernel_rfl) rfl rfl rfl hK0 (fun w hK => Res.move rfl rfl) ?_
        refine ZL.take 8 rfl (by kernel_rfl) rfl rfl rfl hK0 (fun w hK => Res.move rfl rfl) ?_
        refine ZL.take 9 rfl (by kernel_rfl) rfl rfl rfl hK0 (fun w hK => Res.cast (Res.add rfl rfl rfl (by omega)) (v' := .int .i64 ((16 * j + i : Nat) : Int)) (by congr 1)) ?_
        refine ZL.take 10 rfl (by kernel_rfl) rfl rfl rfl hK0 (fun w hK => Res.idxS1 (k := 16 * j + i) rfl rfl rfl Tryd.underlying23 sz5 (Int.toNat_natCast _) (by omega)) ?_
        refine ZL.take 11 rfl (by kernel_rfl) rfl rfl rfl hK0 (fun w hK => Res.load1 (v := byte ((conf ++ text).getD (16 * j + i) 0)) rfl rfl Tryd.underlying5 rfl (w := w) (hK.2.st.cell (PH.cell_mono ((hG3.trans hGJ).1) (lcell _ (by omega))))) ?_
        refine ZL.take 12 rfl (by kernel_rfl) rfl rfl rfl hK0 (fun w hK => Res.xorB _ rfl rfl rfl) ?_
        refine ZL.take 13 rfl (by kernel_rfl) rfl rfl rfl hK0 (fun w hK => Res.idxS0 (k := i) rfl rfl rfl Tryd.underlying23 sz5 (Int.toNat_natCast _) (by omega)) ?_
        refine ZL.end 14 (by decide) rfl (by kernel_rfl) rfl (Stp.storeB 0 rfl rfl rfl sz5 rfl hS rfl (by simp; omega) ?_)
        intro w hS hpt
        have hS9 : St w0 w MJ ((b56, .cells (bs (((Aes.upTo i (fun i => (Seal.cl (Seal.ek key use) (Seal.padTo (conf ++ text)) j).getD i 0 ^^^ (Seal.padTo (conf ++ text)).getD (16 * j + i) 0) (List.replicate 16 0)).set i ((Seal.cl (Seal.ek key use) (Seal.padTo (conf ++ text)) j).getD i 0)).set i ((Seal.cl (Seal.ek key use) (Seal.padTo (conf ++ text)) j).getD i 0 ^^^ (conf ++ text).getD (16 * j + i) 0))) 5 (0, 0)) :: OO) := hS
        rw [List.set_set, ← Seal.pad_in (b := conf ++ text) (by omega)] at hS9
        refine ZL.done (by kernel_rfl) (Blk_n (Thn_n ?_))
        refine CW.region ?_
        refine WL.step rfl (Stp.res rfl rfl (Res.move rfl rfl) ?_)
        refine WL.step rfl (Stp.res rfl rfl (Res.add rfl rfl rfl (by omega)) ?_)
        refine WL.step rfl (Stp.res rfl rfl (Res.assign rfl rfl) ?_)
        refine WL.nil (Thn_n ?_)
        refine ⟨i + 1, ⟨rfl, rfl, rfl, rfl, rfl, rfl, rfl, rfl, rfl, rfl, trivial⟩, ⟨by omega, ?_⟩, by omega⟩
        rw [← Aes.upTo_set]
        exact hS9
      · have hin : ¬ 16 * j + i < (conf ++ text).length := by omega
        have hS9 := hS
        rw [show (Seal.cl (Seal.ek key use) (Seal.padTo (conf ++ text)) j).getD i 0 = (Seal.cl (Seal.ek key use) (Seal.padTo (conf ++ text)) j).getD i 0 ^^^ (Seal.padTo (conf ++ text)).getD (16 * j + i) 0 by rw [Seal.pad_out hin, UInt8.xor_zero]] at hS9
        refine CW.skip (Blk_n (Thn_n ?_))
        refine CW.region ?_
        refine WL.step rfl (Stp.res rfl rfl (Res.move rfl rfl) ?_)
        refine WL.step rfl (Stp.res rfl rfl (Res.add rfl rfl rfl (by omega)) ?_)
        refine WL.step rfl (Stp.res rfl rfl (Res.assign rfl rfl) ?_)
        refine WL.nil (Thn_n ?_)
        refine ⟨i + 1, ⟨rfl, rfl, rfl, rfl, rfl, rfl, rfl, rfl, rfl, rfl, trivial⟩, ⟨by omega, ?_⟩, by omega⟩
        rw [← Aes.upTo_set]
        exact hS9
    · obtain rfl : i = 16 := by omega
      refine CW.exit (Thn_x (Thn_x (Blk_x (Thn_n ?_))))
      refine CW.seq ?_
      rw [Aes.upTo_all _ _ 16 (List.length_replicate ..), Seal.xor_blk] at hS
      have hF := hS.freezeG (i := 0) rfl hb56
      obtain ⟨M4, hG4, hx, hS⟩ : ∃ M4, Grow w0.heap.size MJ M4 ∧ Bs M4 (.slice (some ⟨b56, 0, none⟩) 16 16) (Aes.xorB (Seal.blk (Seal.padTo (conf ++ text)) j) (Seal.cl (Seal.ek key use) (Seal.padTo (conf ++ text)) j)) ∧ St w0 w2 M4 OO := ⟨_, hF.2, Bs.of' (PH.add_self _ _ _) (Aes.xorB_length _ _) (by omega), hF.1⟩
      refine CW.region ?_
      refine WL.step rfl (Stp.res rfl rfl (Res.move rfl rfl) ?_)
      refine WL.step rfl (Stp.res rfl rfl (Res.move rfl rfl) ?_)
      refine WL.step rfl (Stp.callG (args := [_, _]) rfl rfl rfl cal39 rfl rfl hS (rencrypt_ok _ _ (Seal.ek key use) (Aes.xorB (Seal.blk (Seal.padTo (conf ++ text)) j) (Seal.cl (Seal.ek key use) (Seal.padTo (conf ++ text)) j)) _ _ hS.on (hs.mono (((hG2.trans hG3).trans hGJ).trans hG4).1) hx (Seal.ek_length ..) (Aes.xorB_length ..)) ?_)
      rintro _ w M5 hS hG5 ⟨lv2, rfl, hlv2⟩
      have hlv2 : Bs M5 lv2 (Seal.cl (Seal.ek key use) (Seal.padTo (conf ++ text)) (j + 1)) := hlv2
      obtain ⟨va2, vc2, rfl, z1, z2, z3, z4⟩ := id hlv2
      refine WL.step rfl (Stp.res rfl rfl (Res.move rfl rfl) ?_)
      refine WL.step rfl (Stp.res rfl rfl (Res.extract (l := [_, _]) rfl rfl rfl) ?_)
      refine WL.step rfl (Stp.res rfl rfl (Res.extract (l := [_, _]) rfl rfl rfl) ?_)
      refine WL.step rfl (Stp.res rfl rfl (Res.assign rfl rfl) ?_)
      refine WL.nil (Thn_n ?_)
      subst hOO
      refine CW.region ?_
      refine WL.step rfl (Stp.res rfl rfl (Res.move rfl rfl) ?_)
      refine WL.step rfl (Stp.res rfl rfl (Res.move rfl rfl) ?_)
      refine WL.step rfl (Stp.lit (vals := [(0, .slice va2 (Seal.cl (Seal.ek key use) (Seal.padTo (conf ++ text)) (j + 1)).length vc2)]) (cs := #[.slice va2 (Seal.cl (Seal.ek key use) (Seal.padTo (conf ++ text)) (j + 1)).length vc2]) (e := 23) rfl rfl (fun _ => by kernel_rfl) rfl rfl hS ?_)
      intro b95 w hb95 hS hkp hnw
      have hF := hS.freezeG (i := 0) rfl hb95
      obtain ⟨M6, hG6, hlit, hS⟩ : ∃ M6, Grow w0.heap.size M5 M6 ∧ Vs M6 (.slice (some ⟨b95, 0, none⟩) 1 1) [.slice va2 (Seal.cl (Seal.ek key use) (Seal.padTo (conf ++ text)) (j + 1)).length vc2] ∧ St w0 w M6 (g ++ []) := ⟨_, hF.2, Vs.of (PH.add_self _ _ _) rfl rfl (by decide), hF.1⟩
      refine WL.step rfl (Stp.append (sz := 1) (m := 1) (k := j) (xs := xs) rfl rfl rfl rfl et70 (by decide) rfl (Src.ofVs Tryd.underlying70 hS hlit (by intro x hx; simp at hx; subst hx; exact hlv2.one)) hS hown (by omega) (by omega) rfl rfl ?_)
      intro bv2 w g2 hS hown
      refine WL.step rfl (Stp.res rfl rfl (Res.assign rfl rfl) ?_)
      refine WL.nil (Blk_n (Thn_n ?_))
      refine CW.region ?_
      refine WL.step rfl (Stp.res rfl rfl (Res.move rfl rfl) ?_)
      refine WL.step rfl (Stp.res rfl rfl (Res.add rfl rfl rfl (by omega)) ?_)
      refine WL.step rfl (Stp.res rfl rfl (Res.assign rfl rfl) ?_)
      refine WL.nil (Thn_n ?_)
      exact ⟨(j + 1, M6, _, bv2, g2, xs ++ [_]), ⟨rfl, rfl, rfl, rfl, rfl, rfl, rfl, intc (by omega), trivial⟩, ⟨by dsimp only; omega, ((hGJ.trans hG4).trans hG5).trans hG6, hS, hlv2.mono hG6.1, hown, (hbl.mono ((hG4.trans hG5).trans hG6).1).snoc (hlv2.mono hG6.1)⟩, by dsimp only; omega⟩
  · obtain rfl : j = (Seal.ceil (conf ++ text).length / 16) := by omega
    obtain ⟨wb, cs, cp, hwb, rfl, rfl, hxl, hmm, hcp, hcs⟩ := Own.vs hown (by omega)
    have hcsf : ∀ i, i < (Seal.ceil (conf ++ text).length / 16) → ∃ y, cs[i]? = some y ∧ Bs MJ y ((fun i => Seal.cl (Seal.ek key use) (Seal.padTo (conf ++ text)) (i + 1)) i) := fun i hi => by
      obtain ⟨y, e1, e2⟩ := hbl.2 i hi
      exact ⟨y, hcs _ _ e1, e2⟩
    refine CW.exit (Thn_x (Thn_x (Blk_x (Thn_n ?_))))
    refine CW.seq ?_
    refine CW.region ?_
    refine WL.step rfl (Stp.res rfl rfl (Res.move rfl rfl) ?_)
    refine WL.step rfl (Stp.res rfl rfl (Res.len rfl rfl rfl rfl Tryd.underlying70) ?_)
    refine WL.step rfl (Stp.res rfl rfl (Res.assign rfl rfl) ?_)
    refine WL.nil (Thn_n ?_)
    refine CW.seq ?_
    refine CW.seq ?_
    refine CW.region ?_
    refine WL.step rfl (Stp.res rfl rfl (Res.move rfl rfl) ?_)
    refine WL.step rfl (Stp.res rfl rfl (Res.gtr rfl rfl rfl) ?_)
    refine WL.nil (Thn_n ?_)
    refine CW.ite rfl (fun h4 => ?_) (fun h4 => ?_)
    · have hm1 : 1 < (Seal.ceil (conf ++ text).length / 16) := by omega
      obtain ⟨y1, hy1, hb1⟩ := hbl.2 ((Seal.ceil (conf ++ text).length / 16) - 1) (by omega)
      obtain ⟨y2, hy2, hb2⟩ := hbl.2 ((Seal.ceil (conf ++ text).length / 16) - 2) (by omega)
      have hsz : (Seal.ceil (conf ++ text).length / 16) ≤ cs.size := by
        obtain ⟨q, _⟩ := Array.getElem?_eq_some_iff.1 (hcs _ _ hy1)
        omega
      have hS := hS.drew
      have hK0 := hS.get (i := 0) rfl
      refine CW.last (fun w => w.heap[wb]? = some (.cells cs 23 (0, 0))) [3, 4, 5, 17, 18, 19] mixed ?_
      refine ZL.takeP 3 rfl (by kernel_rfl) rfl rfl rfl (fun w => Res.move rfl rfl) ?_
      refine ZL.takeP 4 rfl (by kernel_rfl) rfl rfl rfl (fun w => Res.move rfl rfl) ?_
      refine ZL.takeP 5 rfl (by kernel_rfl) rfl rfl rfl (fun w => Res.cast (Res.sub rfl rfl rfl (by omega)) (v' := .int .i64 (((Seal.ceil (conf ++ text).length / 16) - 1 : Nat) : Int)) (by congr 1; omega)) ?_
      refine ZL.take 0 rfl (by kernel_rfl) rfl rfl rfl hK0 (fun w hK => Res.move rfl rfl) ?_
      refine ZL.take 1 rfl (by kernel_rfl) rfl rfl rfl hK0 (fun w hK => Res.move rfl rfl) ?_
      refine ZL.take 2 rfl (by kernel_rfl) rfl rfl rfl hK0 (fun w hK => Res.cast (Res.sub rfl rfl rfl (by omega)) (v' := .int .i64 (((Seal.ceil (conf ++ text).length / 16) - 2 : Nat) : Int)) (by congr 1; omega)) ?_
      refine ZL.take 6 rfl (by kernel_rfl) rfl rfl rfl hK0 (fun w hK => Res.move rfl rfl) ?_
      refine ZL.take 7 rfl (by kernel_rfl) rfl rfl rfl hK0 (fun w hK => Res.move rfl rfl) ?_
      refine ZL.take 8 rfl (by kernel_rfl) rfl rfl rfl hK0 (fun w hK => Res.cast (Res.sub rfl rfl rfl (by omega)) (v' := .int .i64 (((Seal.ceil (conf ++ text).length / 16) - 1 : Nat) : Int)) (by congr 1; omega)) ?_
      refine ZL.take 9 rfl (by kernel_rfl) rfl rfl rfl hK0 (fun w hK => Res.idxS0 (k := (Seal.ceil (conf ++ text).length / 16) - 1) rfl rfl rfl Tryd.underlying70 sz23 (Int.toNat_natCast _) (by omega)) ?_
      refine ZL.take 10 rfl (by kernel_rfl) rfl rfl rfl hK0 (fun w hK => Res.load1 (v := y1) rfl rfl Tryd.underlying23 rfl (w := w) (by rw [cell_of hK]; exact hcs _ _ hy1)) ?_
      refine ZL.take 11 rfl (by kernel_rfl) rfl rfl rfl hK0 (fun w hK => Res.move rfl rfl) ?_
      refine ZL.take 12 rfl (by kernel_rfl) rfl rfl rfl hK0 (fun w hK => Res.move rfl rfl) ?_
      refine ZL.take 13 rfl (by kernel_rfl) rfl rfl rfl hK0 (fun w hK => Res.cast (Res.sub rfl rfl rfl (by omega)) (v' := .int .i64 (((Seal.ceil (conf ++ text).length / 16) - 2 : Nat) : Int)) (by congr 1; omega)) ?_
      refine ZL.take 14 rfl (by kernel_rfl) rfl rfl rfl hK0 (fun w hK => Res.idxS0 (k := (Seal.ceil (conf ++ text).length / 16) - 2) rfl rfl rfl Tryd.underlying70 sz23 (Int.toNat_natCast _) (by omega)) ?_
      refine ZL.take 15 rfl (by kernel_rfl) rfl rfl rfl hK0 (fun w hK => Res.load1 (v := y2) rfl rfl Tryd.underlying23 rfl (w := w) (by rw [cell_of hK]; exact hcs _ _ hy2)) ?_
      refine ZL.take 16 rfl (by kernel_rfl) rfl rfl rfl hK0 (fun w hK => Res.idxS0 (k := (Seal.ceil (conf ++ text).length / 16) - 2) rfl rfl rfl Tryd.underlying70 sz23 (Int.toNat_natCast _) (by omega)) ?_
      refine ZL.end 17 (by decide) rfl (by kernel_rfl) rfl (Stp.store1 0 (v := y1) rfl rfl rfl sz23 hb1.one rfl hS rfl (by omega) ?_)
      intro w hS hpt
      refine ZL.end 18 (by decide) rfl (by kernel_rfl) rfl (Stp.res rfl rfl (Res.idxS0 (k := (Seal.ceil (conf ++ text).length / 16) - 1) rfl rfl rfl Tryd.underlying70 sz23 (Int.toNat_natCast _) (by omega)) ?_)
      refine ZL.end 19 (by decide) rfl (by kernel_rfl) rfl (Stp.store1 0 (v := y2) rfl rfl rfl sz23 hb2.one rfl hS rfl (by rw [Array.size_setIfInBounds]; omega) ?_)
      intro w hS hpt
      change St w0 w MJ [(wb, .cells ((cs.setIfInBounds ((Seal.ceil (conf ++ text).length / 16) - 2) y1).setIfInBounds ((Seal.ceil (conf ++ text).length / 16) - 1) y2) 23 (0, 0))] at hS
      obtain ⟨cs2, hcs2⟩ : ∃ cs2, cs2 = (cs.setIfInBounds ((Seal.ceil (conf ++ text).length / 16) - 2) y1).setIfInBounds ((Seal.ceil (conf ++ text).length / 16) - 1) y2 := ⟨_, rfl⟩
      rw [← hcs2] at hS
      have hsw0 : ∀ i, i < (Seal.ceil (conf ++ text).length / 16) → ∃ y, cs2[i]? = some y ∧ Bs MJ y ((Seal.swapped (fun i => Seal.cl (Seal.ek key use) (Seal.padTo (conf ++ text)) (i + 1)) (Seal.ceil (conf ++ text).length / 16)) i) := by
        rw [hcs2]
        exact swap_cells (by omega) (by omega) hcsf hy1 hb1 hy2 hb2
      obtain ⟨MB, hGB, hMB, hS⟩ : ∃ MB, Grow w0.heap.size MJ MB ∧ MB wb = some (.cells cs2 23 (0, 0)) ∧ St w0 w MB [] := by
        have hF := hS.freezeG (i := 0) rfl hwb
        exact ⟨_, hF.2, PH.add_self _ _ _, hF.1⟩
      have hsw : ∀ i, i < (Seal.ceil (conf ++ text).length / 16) → ∃ y, cs2[i]? = some y ∧ Bs MB y ((Seal.swapped (fun i => Seal.cl (Seal.ek key use) (Seal.padTo (conf ++ text)) (i + 1)) (Seal.ceil (conf ++ text).length / 16)) i) := fun i hi => by
        obtain ⟨y, e1, e2⟩ := hsw0 i hi
        exact ⟨y, e1, e2.mono hGB.1⟩
      refine ZL.done (by kernel_rfl) (Thn_n ?_)
      refine CW.seq ?_
      refine CW.region ?_
      refine WL.step rfl (Stp.lit (vals := []) (cs := bs []) (e := 5) rfl rfl (fun _ => by kernel_rfl) rfl rfl hS ?_)
      intro b119 w hb119 hS hkp hnw
      refine WL.step rfl (Stp.res rfl rfl (Res.assign rfl rfl) ?_)
      refine WL.nil (Thn_n ?_)
      refine CW.seq ?_
      refine CW.seq ?_
      refine CW.region ?_
      refine WL.step rfl (Stp.res rfl rfl (Res.assign rfl rfl) ?_)
      refine WL.nil (Thn_n ?_)
      refine CW.block ?_
      refine CW.loop (σ := Nat × PH × Value × Owned) (fun s_ => [(0, kv), (1, .int .i64 use), (14, .int .i64 ((conf ++ text).length : Int)), (16, .slice (some ⟨wb, 0, none⟩) (Seal.ceil (conf ++ text).length / 16) cp), (20, .int .i64 ((Seal.ceil (conf ++ text).length / 16) : Int)), (21, s_.2.2.1), (22, .int .i64 (s_.1 : Int))])
        (fun s_ w' => s_.1 ≤ (Seal.ceil (conf ++ text).length / 16) ∧ Grow w0.heap.size MB s_.2.1 ∧ St w0 w' s_.2.1 (s_.2.2.2 ++ []) ∧ OwnB w0.heap.size s_.2.2.2 s_.2.2.1 (Seal.cat (Seal.swapped (fun i => Seal.cl (Seal.ek key use) (Seal.padTo (conf ++ text)) (i + 1)) (Seal.ceil (conf ++ text).length / 16)) s_.1) 5) (fun s_ => (Seal.ceil (conf ++ text).length / 16) - s_.1) (0, MB, _, _) ⟨rfl, rfl, rfl, rfl, rfl, rfl, rfl, trivial⟩ ⟨by dsimp only; omega, Grow.refl _ _, hS, OwnB.of hb119 (Nat.le_refl 0) (by omega) [] rfl rfl⟩ ?_
      rintro ⟨i, MK, ov, g⟩ w3 ⟨hi, hGK, hS, hown⟩
      dsimp only at hi hGK hS hown ⊢
      refine CW.seq ?_
      refine CW.seq ?_
      refine CW.region ?_
      refine WL.step rfl (Stp.res rfl rfl (Res.move rfl rfl) ?_)
      refine WL.step rfl (Stp.res rfl rfl (Res.move rfl rfl) ?_)
      refine WL.step rfl (Stp.res rfl rfl (Res.lss rfl rfl rfl) ?_)
      refine WL.nil (Thn_n ?_)
      refine CW.ite rfl (fun h5 => ?_) (fun h5 => ?_)
      · have hlt5 : i < (Seal.ceil (conf ++ text).length / 16) := by omega
        obtain ⟨y, hy, hby⟩ := hsw i hlt5
        refine CW.skip (Thn_n ?_)
        refine CW.seq ?_
        refine CW.block ?_
        refine CW.region ?_
        refine WL.step rfl (Stp.res rfl rfl (Res.move rfl rfl) ?_)
        refine WL.step rfl (Stp.res rfl rfl (Res.move rfl rfl) ?_)
        refine WL.step rfl (Stp.res rfl rfl (Res.move rfl rfl) ?_)
        refine WL.step rfl (Stp.res rfl rfl (Res.idxS0 (k := i) rfl rfl rfl Tryd.underlying70 sz23 (Int.toNat_natCast _) (by omega)) ?_)
        refine WL.step rfl (Stp.res rfl rfl (Res.load1 (v := y) rfl rfl Tryd.underlying23 rfl (hS.cell (PH.cell_of (hGK.1 _ _ hMB) hy))) ?_)
        refine WL.step rfl (Stp.appendB (l := Seal.cat (Seal.swapped (fun i => Seal.cl (Seal.ek key use) (Seal.padTo (conf ++ text)) (i + 1)) (Seal.ceil (conf ++ text).length / 16)) i) (r := (Seal.swapped (fun i => Seal.cl (Seal.ek key use) (Seal.padTo (conf ++ text)) (i + 1)) (Seal.ceil (conf ++ text).length / 16)) i) rfl rfl rfl rfl et23 (Src.ofBs Tryd.underlying23 hS (hby.mono hGK.1)) hS hown (by rw [Seal.cat_length (fun j _ => Seal.swapped_length (fun i => Seal.cl_length ..)), Seal.swapped_length (fun i => Seal.cl_length ..)]; omega) rfl rfl ?_)
        intro ov2 w g2 hS hown
        refine WL.step rfl (Stp.res rfl rfl (Res.assign rfl rfl) ?_)
        refine WL.nil (Blk_n (Thn_n ?_))
        refine CW.region ?_
        refine WL.step rfl (Stp.res rfl rfl (Res.move rfl rfl) ?_)
        refine WL.step rfl (Stp.res rfl rfl (Res.add rfl rfl rfl (by omega)) ?_)
        refine WL.step rfl (Stp.res rfl rfl (Res.assign rfl rfl) ?_)
        refine WL.nil (Thn_n ?_)
        exact ⟨(i + 1, MK, ov2, g2), ⟨rfl, rfl, rfl, rfl, rfl, rfl, rfl, trivial⟩, ⟨by dsimp only; omega, hGK, hS, hown⟩, by dsimp only; omega⟩
      · obtain rfl : i = (Seal.ceil (conf ++ text).length / 16) := by omega
        refine CW.exit (Thn_x (Thn_x (Blk_x (Thn_n ?_))))
        refine CW.seq ?_
        have hcat : Seal.cat (Seal.swapped (fun i => Seal.cl (Seal.ek key use) (Seal.padTo (conf ++ text)) (i + 1)) (Seal.ceil (conf ++ text).length / 16)) (Seal.ceil (conf ++ text).length / 16) = Seal.swapL (Seal.chain (Seal.ek key use) (conf ++ text)) := by
          rw [Seal.cat_swapped _ _ (fun i => Seal.cl_length ..), Seal.cat_co]
          rfl
        rw [hcat] at hown
        have hswl : (Seal.swapL (Seal.chain (Seal.ek key use) (conf ++ text))).length = Seal.ceil (conf ++ text).length := by rw [Seal.swapL_length, Seal.chain_length]
        obtain ⟨ob, rest, cp, hob, rfl, rfl, hd1, hd2⟩ := hown.gb (by omega)
        have hmb := hS.out (i := 0) rfl
        refine CW.region ?_
        refine WL.step rfl (Stp.res rfl rfl (Res.move rfl rfl) ?_)
        refine WL.step rfl (Stp.res rfl rfl (Res.move rfl rfl) ?_)
        refine WL.step rfl (Stp.res rfl rfl (Res.sliceHi (h := (conf ++ text).length) rfl rfl rfl Tryd.underlying23 sz5 (by omega)) ?_)
        refine WL.step rfl (Stp.res rfl rfl (Res.assign rfl rfl) ?_)
        refine WL.nil (Thn_n ?_)
        refine CW.seq ?_
        have hF := hS.freezeG (i := 0) rfl hob
        obtain ⟨M8, hG8, hM8, hS⟩ : ∃ M8, Grow w0.heap.size MK M8 ∧ M8 ob = some (.cells (Gb (Seal.swapL (Seal.chain (Seal.ek key use) (conf ++ text))) rest) 5 (0, 0)) ∧ St w0 w3 M8 [] := ⟨_, hF.2, PH.add_self _ _ _, hF.1⟩
        have hbody : Bs M8 (.slice (some ⟨ob, 0, none⟩) (conf ++ text).length cp) (Seal.body (Seal.ek key use) (conf ++ text)) := Bs.ofGb hM8 (by omega) (by omega) hd2
        have hownb : OwnB w0.heap.size [(ob, .cells (Gb (Seal.swapL (Seal.chain (Seal.ek key use) (conf ++ text))) rest) 5 (0, 0))] (.slice (some ⟨ob, 0, none⟩) (conf ++ text).length cp) (Seal.body (Seal.ek key use) (conf ++ text)) 5 := OwnB.ofGbTake hob hd1 hd2 (by omega)
        refine CW.region ?_
        refine WL.step rfl (Stp.res rfl rfl (Res.move rfl rfl) ?_)
        refine WL.step rfl (Stp.res rfl rfl (Res.move rfl rfl) ?_)
        refine WL.step rfl (Stp.res rfl rfl (Res.move rfl rfl) ?_)
        refine WL.step rfl (Stp.callG (args := [_, _, _]) rfl rfl rfl cal22 rfl rfl hS (qtag_all _ _ key (Seal.body (Seal.ek key use) (conf ++ text)) use _ _ hS.on (hkey.mono (((((hG1.trans hG2).trans hG3).trans hGJ).trans hGB).trans (hGK.trans hG8)).1) hbody (by rw [Seal.body_length]; omega)) ?_)
        rintro _ w M9 hS hG9 ⟨tg, rfl, htg⟩
        rw [Seal.tagR, if_pos hg] at htg ⊢
        change Bs M9 tg (Seal.tag (Seal.ik key use) (Seal.body (Seal.ek key use) (conf ++ text))) at htg
        have hsrc := Src.ofBs (P := Tryd.prog) (u := 23) Tryd.underlying23 hS htg
        have hS := hS.take (hG9.1 _ _ hM8) (hG8.trans hG9).1 hmb
        refine WL.step rfl (Stp.res rfl rfl (Res.move rfl rfl) ?_)
        refine WL.step rfl (Stp.res rfl rfl (Res.extract (l := [_, _]) rfl rfl rfl) ?_)
        refine WL.step rfl (Stp.res rfl rfl (Res.extract (l := [_, _]) rfl rfl rfl) ?_)
        refine WL.step rfl (Stp.res rfl rfl (Res.assign rfl rfl) ?_)
        refine WL.step rfl (Stp.res rfl rfl (Res.assign rfl rfl) ?_)
        refine WL.nil (Thn_n ?_)
        refine CW.seq ?_
        refine CW.region ?_
        refine WL.step rfl (Stp.res rfl rfl (Res.move rfl rfl) ?_)
        refine WL.step rfl (Stp.res rfl rfl (Res.move rfl rfl) ?_)
        refine WL.step rfl (Stp.appendB (l := Seal.body (Seal.ek key use) (conf ++ text)) (r := Seal.tag (Seal.ik key use) (Seal.body (Seal.ek key use) (conf ++ text))) rfl rfl rfl rfl et23 hsrc hS hownb (by rw [Seal.body_length, Seal.tag_length]; omega) rfl rfl ?_)
        intro fv w g3 hS hown
        obtain ⟨M10, hS, hle10, hfr10, hfin⟩ := hown.give hS
        refine WL.step rfl (Stp.res rfl rfl (Res.assign rfl rfl) ?_)
        refine WL.step rfl (Stp.res rfl rfl (Res.assign rfl rfl) ?_)
        refine WL.nil (Thn_n ?_)
        refine CW.ret ?_
        have hGA := (((((hG1.trans hG2).trans hG3).trans hGJ).trans hGB).trans hGK).trans ⟨hle10, hfr10⟩
        exact fq_tmp2 rfl rfl rfl ⟨M10, hS, hGA.1, hGA.2, fv, by rw [Seal.sealR_ok hg hc hl], by rw [Seal.sealR_ok hg hc hl]; exact hfin⟩
    · have hm1 : ¬ 1 < (Seal.ceil (conf ++ text).length / 16) := by omega
      obtain ⟨cs2, hcs2⟩ : ∃ cs2, cs2 = cs := ⟨_, rfl⟩
      rw [← hcs2] at hS hcsf
      have hsw0 : ∀ i, i < (Seal.ceil (conf ++ text).length / 16) → ∃ y, cs2[i]? = some y ∧ Bs MJ y ((Seal.swapped (fun i => Seal.cl (Seal.ek key use) (Seal.padTo (conf ++ text)) (i + 1)) (Seal.ceil (conf ++ text).length / 16)) i) := fun i hi => by
        rw [Seal.swapped, if_neg hm1]
        exact hcsf i hi
      obtain ⟨w, hww⟩ : ∃ w, w = w1 := ⟨_, rfl⟩
      rw [← hww] at hS ⊢
      obtain ⟨MB, hGB, hMB, hS⟩ : ∃ MB, Grow w0.heap.size MJ MB ∧ MB wb = some (.cells cs2 23 (0, 0)) ∧ St w0 w MB [] := by
        have hF := hS.freezeG (i := 0) rfl hwb
        exact ⟨_, hF.2, PH.add_self _ _ _, hF.1⟩
      have hsw : ∀ i, i < (Seal.ceil (conf ++ text).length / 16) → ∃ y, cs2[i]? = some y ∧ Bs MB y ((Seal.swapped (fun i => Seal.cl (Seal.ek key use) (Seal.padTo (conf ++ text)) (i + 1)) (Seal.ceil (conf ++ text).length / 16)) i) := fun i hi => by
        obtain ⟨y, e1, e2⟩ := hsw0 i hi
        exact ⟨y, e1, e2.mono hGB.1⟩
      refine CW.skip (Thn_n ?_)
      refine CW.seq ?_
      refine CW.region ?_
      refine WL.step rfl (Stp.lit (vals := []) (cs := bs []) (e := 5) rfl rfl (fun _ => by kernel_rfl) rfl rfl hS ?_)
      intro b119 w hb119 hS hkp hnw
      refine WL.step rfl (Stp.res rfl rfl (Res.assign rfl rfl) ?_)
      refine WL.nil (Thn_n ?_)
      refine CW.seq ?_
      refine CW.seq ?_
      refine CW.region ?_
      refine WL.step rfl (Stp.res rfl rfl (Res.assign rfl rfl) ?_)
      refine WL.nil (Thn_n ?_)
      refine CW.block ?_
      refine CW.loop (σ := Nat × PH × Value × Owned) (fun s_ => [(0, kv), (1, .int .i64 use), (14, .int .i64 ((conf ++ text).length : Int)), (16, .slice (some ⟨wb, 0, none⟩) (Seal.ceil (conf ++ text).length / 16) cp), (20, .int .i64 ((Seal.ceil (conf ++ text).length / 16) : Int)), (21, s_.2.2.1), (22, .int .i64 (s_.1 : Int))])
        (fun s_ w' => s_.1 ≤ (Seal.ceil (conf ++ text).length / 16) ∧ Grow w0.heap.size MB s_.2.1 ∧ St w0 w' s_.2.1 (s_.2.2.2 ++ []) ∧ OwnB w0.heap.size s_.2.2.2 s_.2.2.1 (Seal.cat (Seal.swapped (fun i => Seal.cl (Seal.ek key use) (Seal.padTo (conf ++ text)) (i + 1)) (Seal.ceil (conf ++ text).length / 16)) s_.1) 5) (fun s_ => (Seal.ceil (conf ++ text).length / 16) - s_.1) (0, MB, _, _) ⟨rfl, rfl, rfl, rfl, rfl, rfl, rfl, trivial⟩ ⟨by dsimp only; omega, Grow.refl _ _, hS, OwnB.of hb119 (Nat.le_refl 0) (by omega) [] rfl rfl⟩ ?_
      rintro ⟨i, MK, ov, g⟩ w3 ⟨hi, hGK, hS, hown⟩
      dsimp only at hi hGK hS hown ⊢
      refine CW.seq ?_
      refine CW.seq ?_
      refine CW.region ?_
      refine WL.step rfl (Stp.res rfl rfl (Res.move rfl rfl) ?_)
      refine WL.step rfl (Stp.res rfl rfl (Res.move rfl rfl) ?_)
      refine WL.step rfl (Stp.res rfl rfl (Res.lss rfl rfl rfl) ?_)
      refine WL.nil (Thn_n ?_)
      refine CW.ite rfl (fun h5 => ?_) (fun h5 => ?_)
      · have hlt5 : i < (Seal.ceil (conf ++ text).length / 16) := by omega
        obtain ⟨y, hy, hby⟩ := hsw i hlt5
        refine CW.skip (Thn_n ?_)
        refine CW.seq ?_
        refine CW.block ?_
        refine CW.region ?_
        refine WL.step rfl (Stp.res rfl rfl (Res.move rfl rfl) ?_)
        refine WL.step rfl (Stp.res rfl rfl (Res.move rfl rfl) ?_)
        refine WL.step rfl (Stp.res rfl rfl (Res.move rfl rfl) ?_)
        refine WL.step rfl (Stp.res rfl rfl (Res.idxS0 (k := i) rfl rfl rfl Tryd.underlying70 sz23 (Int.toNat_natCast _) (by omega)) ?_)
        refine WL.step rfl (Stp.res rfl rfl (Res.load1 (v := y) rfl rfl Tryd.underlying23 rfl (hS.cell (PH.cell_of (hGK.1 _ _ hMB) hy))) ?_)
        refine WL.step rfl (Stp.appendB (l := Seal.cat (Seal.swapped (fun i => Seal.cl (Seal.ek key use) (Seal.padTo (conf ++ text)) (i + 1)) (Seal.ceil (conf ++ text).length / 16)) i) (r := (Seal.swapped (fun i => Seal.cl (Seal.ek key use) (Seal.padTo (conf ++ text)) (i + 1)) (Seal.ceil (conf ++ text).length / 16)) i) rfl rfl rfl rfl et23 (Src.ofBs Tryd.underlying23 hS (hby.mono hGK.1)) hS hown (by rw [Seal.cat_length (fun j _ => Seal.swapped_length (fun i => Seal.cl_length ..)), Seal.swapped_length (fun i => Seal.cl_length ..)]; omega) rfl rfl ?_)
        intro ov2 w g2 hS hown
        refine WL.step rfl (Stp.res rfl rfl (Res.assign rfl rfl) ?_)
        refine WL.nil (Blk_n (Thn_n ?_))
        refine CW.region ?_
        refine WL.step rfl (Stp.res rfl rfl (Res.move rfl rfl) ?_)
        refine WL.step rfl (Stp.res rfl rfl (Res.add rfl rfl rfl (by omega)) ?_)
        refine WL.step rfl (Stp.res rfl rfl (Res.assign rfl rfl) ?_)
        refine WL.nil (Thn_n ?_)
        exact ⟨(i + 1, MK, ov2, g2), ⟨rfl, rfl, rfl, rfl, rfl, rfl, rfl, trivial⟩, ⟨by dsimp only; omega, hGK, hS, hown⟩, by dsimp only; omega⟩
      · obtain rfl : i = (Seal.ceil (conf ++ text).length / 16) := by omega
        refine CW.exit (Thn_x (Thn_x (Blk_x (Thn_n ?_))))
        refine CW.seq ?_
        have hcat : Seal.cat (Seal.swapped (fun i => Seal.cl (Seal.ek key use) (Seal.padTo (conf ++ text)) (i + 1)) (Seal.ceil (conf ++ text).length / 16)) (Seal.ceil (conf ++ text).length / 16) = Seal.swapL (Seal.chain (Seal.ek key use) (conf ++ text)) := by
          rw [Seal.cat_swapped _ _ (fun i => Seal.cl_length ..), Seal.cat_co]
          rfl
        rw [hcat] at hown
        have hswl : (Seal.swapL (Seal.chain (Seal.ek key use) (conf ++ text))).length = Seal.ceil (conf ++ text).length := by rw [Seal.swapL_length, Seal.chain_length]
        obtain ⟨ob, rest, cp, hob, rfl, rfl, hd1, hd2⟩ := hown.gb (by omega)
        have hmb := hS.out (i := 0) rfl
        refine CW.region ?_
        refine WL.step rfl (Stp.res rfl rfl (Res.move rfl rfl) ?_)
        refine WL.step rfl (Stp.res rfl rfl (Res.move rfl rfl) ?_)
        refine WL.step rfl (Stp.res rfl rfl (Res.sliceHi (h := (conf ++ text).length) rfl rfl rfl Tryd.underlying23 sz5 (by omega)) ?_)
        refine WL.step rfl (Stp.res rfl rfl (Res.assign rfl rfl) ?_)
        refine WL.nil (Thn_n ?_)
        refine CW.seq ?_
        have hF := hS.freezeG (i := 0) rfl hob
        obtain ⟨M8, hG8, hM8, hS⟩ : ∃ M8, Grow w0.heap.size MK M8 ∧ M8 ob = some (.cells (Gb (Seal.swapL (Seal.chain (Seal.ek key use) (conf ++ text))) rest) 5 (0, 0)) ∧ St w0 w3 M8 [] := ⟨_, hF.2, PH.add_self _ _ _, hF.1⟩
        have hbody : Bs M8 (.slice (some ⟨ob, 0, none⟩) (conf ++ text).length cp) (Seal.body (Seal.ek key use) (conf ++ text)) := Bs.ofGb hM8 (by omega) (by omega) hd2
        have hownb : OwnB w0.heap.size [(ob, .cells (Gb (Seal.swapL (Seal.chain (Seal.ek key use) (conf ++ text))) rest) 5 (0, 0))] (.slice (some ⟨ob, 0, none⟩) (conf ++ text).length cp) (Seal.body (Seal.ek key use) (conf ++ text)) 5 := OwnB.ofGbTake hob hd1 hd2 (by omega)
        refine CW.region ?_
        refine WL.step rfl (Stp.res rfl rfl (Res.move rfl rfl) ?_)
        refine WL.step rfl (Stp.res rfl rfl (Res.move rfl rfl) ?_)
        refine WL.step rfl (Stp.res rfl rfl (Res.move rfl rfl) ?_)
        refine WL.step rfl (Stp.callG (args := [_, _, _]) rfl rfl rfl cal22 rfl rfl hS (qtag_all _ _ key (Seal.body (Seal.ek key use) (conf ++ text)) use _ _ hS.on (hkey.mono (((((hG1.trans hG2).trans hG3).trans hGJ).trans hGB).trans (hGK.trans hG8)).1) hbody (by rw [Seal.body_length]; omega)) ?_)
        rintro _ w M9 hS hG9 ⟨tg, rfl, htg⟩
        rw [Seal.tagR, if_pos hg] at htg ⊢
        change Bs M9 tg (Seal.tag (Seal.ik key use) (Seal.body (Seal.ek key use) (conf ++ text))) at htg
        have hsrc := Src.ofBs (P := Tryd.prog) (u := 23) Tryd.underlying23 hS htg
        have hS := hS.take (hG9.1 _ _ hM8) (hG8.trans hG9).1 hmb
        refine WL.step rfl (Stp.res rfl rfl (Res.move rfl rfl) ?_)
        refine WL.step rfl (Stp.res rfl rfl (Res.extract (l := [_, _]) rfl rfl rfl) ?_)
        refine WL.step rfl (Stp.res rfl rfl (Res.extract (l := [_, _]) rfl rfl rfl) ?_)
        refine WL.step rfl (Stp.res rfl rfl (Res.assign rfl rfl) ?_)
        refine WL.step rfl (Stp.res rfl rfl (Res.assign rfl rfl) ?_)
        refine WL.nil (Thn_n ?_)
        refine CW.seq ?_
        refine CW.region ?_
        refine WL.step rfl (Stp.res rfl rfl (Res.move rfl rfl) ?_)
        refine WL.step rfl (Stp.res rfl rfl (Res.move rfl rfl) ?_)
        refine WL.step rfl (Stp.appendB (l := Seal.body (Seal.ek key use) (conf ++ text)) (r := Seal.tag (Seal.ik key use) (Seal.body (Seal.ek key use) (conf ++ text))) rfl rfl rfl rfl et23 hsrc hS hownb (by rw [Seal.body_length, Seal.tag_length]; omega) rfl rfl ?_)
        intro fv w g3 hS hown
        obtain ⟨M10, hS, hle10, hfr10, hfin⟩ := hown.give hS
        refine WL.step rfl (Stp.res rfl rfl (Res.assign rfl rfl) ?_)
        refine WL.step rfl (Stp.res rfl rfl (Res.assign rfl rfl) ?_)
        refine WL.nil (Thn_n ?_)
        refine CW.ret ?_
        have hGA := (((((hG1.trans hG2).trans hG3).trans hGJ).trans hGB).trans hGK).trans ⟨hle10, hfr10⟩
        exact fq_tmp2 rfl rfl rfl ⟨M10, hS, hGA.1, hGA.2, fv, by rw [Seal.sealR_ok hg hc hl], by rw [Seal.sealR_ok hg hc hl]; exact hfin⟩

theorem qseal_all (kv cv tv : Value) (key conf text : List UInt8) (use : Int) (w0 : World) (M : PH) (hM : On M w0) (hkey : Bs M kv key) (hconf : Bs M cv conf) (htext : Bs M tv text) : Ok Tryd.prog 17 #[kv, .int .i64 use, cv, tv] w0 M (fun M' r => ∃ s, r = .tuple #[s, .int .i64 (Seal.sealR key use conf text).2] ∧ Bs M' s (Seal.sealR key use conf text).1) := by
  by_cases hg : Seal.Good key use
  · by_cases hc : conf.length = 16
    · by_cases hl : text.length ≤ 4096
      · exact qseal_ok kv cv tv key conf text use w0 M hM hkey hconf htext hg hc hl
      · exact qseal_long kv cv tv key conf text use w0 M hM hkey hconf htext hg hc (by omega)
    · exact qseal_conf kv cv tv key conf text use w0 M hM hkey hconf htext hg hc
  · exact qseal_bad kv cv tv key conf text use w0 M hM hkey hconf htext hg
end Go.Proofs.YtcmgimicdcchlaaDoor
set_option linter.unusedVariables false
set_option maxRecDepth 20000
namespace Go.Proofs.YtcmgimicdcchlaaDoor
open Go Go.E
theorem qopen_bad (kv v : Value) (key b : List UInt8) (use : Int) (w0 : World) (M : PH) (hM : On M w0) (hkey : Bs M kv key) (hb : Bs M v b) (hg : ¬ Seal.Good key use) : Ok Tryd.prog 20 #[kv, .int .i64 use, v] w0 M (fun M' r => ∃ s, r = .tuple #[s, .int .i64 (Seal.openR key use b).2] ∧ Bs M' s (Seal.openR key use b).1) := by
  have hS := hM.st
  have hb0 := hb
  obtain ⟨va, vc, rfl, v1, v2, v3, v4⟩ := hb
  refine enterB (l := [kv, .int .i64 use, .slice va b.length vc]) 154 Tryd.func20 rfl Tryd.ntmps20 rfl ?_
  refine CW.seq ?_
  refine CW.region ?_
  refine WL.step rfl (Stp.res rfl rfl (Res.assign rfl rfl) ?_)
  refine WL.step rfl (Stp.res rfl rfl (Res.assign rfl rfl) ?_)
  refine WL.nil (Thn_n ?_)
  refine CW.seq ?_
  refine CW.region ?_
  refine WL.step rfl (Stp.res rfl rfl (Res.move rfl rfl) ?_)
  refine WL.step rfl (Stp.res rfl rfl (Res.move rfl rfl) ?_)
  refine WL.step rfl (Stp.callG (args := [_, _]) rfl rfl rfl cal19 rfl rfl hS (qkeys_no _ key use _ _ hS.on hkey hg) ?_)
  rintro _ w _ hS _ ⟨rfl, rfl⟩
  refine WL.step rfl (Stp.res rfl rfl (Res.move rfl rfl) ?_)
  refine WL.step rfl (Stp.res rfl rfl (Res.extract (l := [_, _, _]) rfl rfl rfl) ?_)
  refine WL.step rfl (Stp.res rfl rfl (Res.extract (l := [_, _, _]) rfl rfl rfl) ?_)
  refine WL.step rfl (Stp.res rfl rfl (Res.extract (l := [_, _, _]) rfl rfl rfl) ?_)
  refine WL.step rfl (Stp.res rfl rfl (Res.assign rfl rfl) ?_)
  refine WL.step rfl (Stp.res rfl rfl (Res.assign rfl rfl) ?_)
  refine WL.step rfl (Stp.res rfl rfl (Res.assign rfl rfl) ?_)
  refine WL.nil (Thn_n ?_)
  refine CW.seq ?_
  refine CW.seq ?_
  refine CW.region ?_
  refine WL.step rfl (Stp.res rfl rfl (Res.move rfl rfl) ?_)
  refine WL.step rfl (Stp.res rfl rfl (Res.neq rfl rfl rfl) ?_)
  refine WL.nil (Thn_n ?_)
  refine CW.iteT rfl (by omega) ?_
  refine CW.seq ?_
  refine CW.region ?_
  refine WL.step rfl (Stp.res rfl rfl (Res.move rfl rfl) ?_)
  refine WL.step rfl (Stp.res rfl rfl (Res.assign rfl rfl) ?_)
  refine WL.step rfl (Stp.res rfl rfl (Res.assign rfl rfl) ?_)
  refine WL.nil (Thn_n ?_)
  refine CW.ret (Thn_r ?_)
  have hlk : Seal.lookE key use b = 2 := by rw [Seal.lookE, if_neg hg]
  exact fq_tmp2 rfl rfl rfl ⟨M, hS, PH.le.refl _, Fresh.refl _ _, _, by rw [Seal.openR_two, hlk], by rw [Seal.openR, if_neg (by rw [hlk]; decide)]; exact Bs.nil _⟩

theorem qopen_short (kv v : Value) (key b : List UInt8) (use : Int) (w0 : World) (M : PH) (hM : On M w0) (hkey : Bs M kv key) (hb : Bs M v b) (hg : Seal.Good key use) (hl : b.length < 32) : Ok Tryd.prog 20 #[kv, .int .i64 use, v] w0 M (fun M' r => ∃ s, r = .tuple #[s, .int .i64 (Seal.openR key use b).2] ∧ Bs M' s (Seal.openR key use b).1) := by
  have hS := hM.st
  have hb0 := hb
  obtain ⟨va, vc, rfl, v1, v2, v3, v4⟩ := hb
  refine enterB (l := [kv, .int .i64 use, .slice va b.length vc]) 154 Tryd.func20 rfl Tryd.ntmps20 rfl ?_
  refine CW.seq ?_
  refine CW.region ?_
  refine WL.step rfl (Stp.res rfl rfl (Res.assign rfl rfl) ?_)
  refine WL.step rfl (Stp.res rfl rfl (Res.assign rfl rfl) ?_)
  refine WL.nil (Thn_n ?_)
  refine CW.seq ?_
  refine CW.region ?_
  refine WL.step rfl (Stp.res rfl rfl (Res.move rfl rfl) ?_)
  refine WL.step rfl (Stp.res rfl rfl (Res.move rfl rfl) ?_)
  refine WL.step rfl (Stp.callG (args := [_, _]) rfl rfl rfl cal19 rfl rfl hS (qkeys_yes _ key use _ _ hS.on hkey hg) ?_)
  rintro _ w M1 hS hG1 ⟨s, t, rfl, hs, ht⟩
  refine WL.step rfl (Stp.res rfl rfl (Res.move rfl rfl) ?_)
  refine WL.step rfl (Stp.res rfl rfl (Res.extract (l := [_, _, _]) rfl rfl rfl) ?_)
  refine WL.step rfl (Stp.res rfl rfl (Res.extract (l := [_, _, _]) rfl rfl rfl) ?_)
  refine WL.step rfl (Stp.res rfl rfl (Res.extract (l := [_, _, _]) rfl rfl rfl) ?_)
  refine WL.step rfl (Stp.res rfl rfl (Res.assign rfl rfl) ?_)
  refine WL.step rfl (Stp.res rfl rfl (Res.assign rfl rfl) ?_)
  refine WL.step rfl (Stp.res rfl rfl (Res.assign rfl rfl) ?_)
  refine WL.nil (Thn_n ?_)
  refine CW.seq ?_
  refine CW.seq ?_
  refine CW.region ?_
  refine WL.step rfl (Stp.res rfl rfl (Res.move rfl rfl) ?_)
  refine WL.step rfl (Stp.res rfl rfl (Res.neq rfl rfl rfl) ?_)
  refine WL.nil (Thn_n ?_)
  refine CW.iteF rfl (by omega) ?_
  refine CW.skip (Thn_n ?_)
  refine CW.seq ?_
  refine CW.seq ?_
  refine CW.region ?_
  refine WL.step rfl (Stp.res rfl rfl (Res.move rfl rfl) ?_)
  refine WL.step rfl (Stp.res rfl rfl (Res.len rfl rfl rfl rfl Tryd.underlying23) ?_)
  refine WL.step rfl (Stp.res rfl rfl (Res.lss rfl rfl rfl) ?_)
  refine WL.nil (Thn_n ?_)
  refine CW.iteT rfl (by omega) ?_
  refine CW.seq ?_
  refine CW.region ?_
  refine WL.step rfl (Stp.res rfl rfl (Res.assign rfl rfl) ?_)
  refine WL.step rfl (Stp.res rfl rfl (Res.assign rfl rfl) ?_)
  refine WL.nil (Thn_n ?_)
  refine CW.ret (Thn_r ?_)
  have hlk : Seal.lookE key use b = 7 := Seal.lookE_few hg hl
  exact fq_tmp2 rfl rfl rfl ⟨M1, hS, hG1.1, hG1.2, _, by rw [Seal.openR_two, hlk], by rw [Seal.openR, if_neg (by rw [hlk]; decide)]; exact Bs.nil _⟩

theorem qopen_long (kv v : Value) (key b : List UInt8) (use : Int) (w0 : World) (M : PH) (hM : On M w0) (hkey : Bs M kv key) (hb : Bs M v b) (hg : Seal.Good key use) (hl : 4128 < b.length) : Ok Tryd.prog 20 #[kv, .int .i64 use, v] w0 M (fun M' r => ∃ s, r = .tuple #[s, .int .i64 (Seal.openR key use b).2] ∧ Bs M' s (Seal.openR key use b).1) := by
  have hS := hM.st
  have hb0 := hb
  obtain ⟨va, vc, rfl, v1, v2, v3, v4⟩ := hb
  refine enterB (l := [kv, .int .i64 use, .slice va b.length vc]) 154 Tryd.func20 rfl Tryd.ntmps20 rfl ?_
  refine CW.seq ?_
  refine CW.region ?_
  refine WL.step rfl (Stp.res rfl rfl (Res.assign rfl rfl) ?_)
  refine WL.step rfl (Stp.res rfl rfl (Res.assign rfl rfl) ?_)
  refine WL.nil (Thn_n ?_)
  refine CW.seq ?_
  refine CW.region ?_
  refine WL.step rfl (Stp.res rfl rfl (Res.move rfl rfl) ?_)
  refine WL.step rfl (Stp.res rfl rfl (Res.move rfl rfl) ?_)
  refine WL.step rfl (Stp.callG (args := [_, _]) rfl rfl rfl cal19 rfl rfl hS (qkeys_yes _ key use _ _ hS.on hkey hg) ?_)
  rintro _ w M1 hS hG1 ⟨s, t, rfl, hs, ht⟩
  refine WL.step rfl (Stp.res rfl rfl (Res.move rfl rfl) ?_)
  refine WL.step rfl (Stp.res rfl rfl (Res.extract (l := [_, _, _]) rfl rfl rfl) ?_)
  refine WL.step rfl (Stp.res rfl rfl (Res.extract (l := [_, _, _]) rfl rfl rfl) ?_)
  refine WL.step rfl (Stp.res rfl rfl (Res.extract (l := [_, _, _]) rfl rfl rfl) ?_)
  refine WL.step rfl (Stp.res rfl rfl (Res.assign rfl rfl) ?_)
  refine WL.step rfl (Stp.res rfl rfl (Res.assign rfl rfl) ?_)
  refine WL.step rfl (Stp.res rfl rfl (Res.assign rfl rfl) ?_)
  refine WL.nil (Thn_n ?_)
  refine CW.seq ?_
  refine CW.seq ?_
  refine CW.region ?_
  refine WL.step rfl (Stp.res rfl rfl (Res.move rfl rfl) ?_)
  refine WL.step rfl (Stp.res rfl rfl (Res.neq rfl rfl rfl) ?_)
  refine WL.nil (Thn_n ?_)
  refine CW.iteF rfl (by omega) ?_
  refine CW.skip (Thn_n ?_)
  refine CW.seq ?_
  refine CW.seq ?_
  refine CW.region ?_
  refine WL.step rfl (Stp.res rfl rfl (Res.move rfl rfl) ?_)
  refine WL.step rfl (Stp.res rfl rfl (Res.len rfl rfl rfl rfl Tryd.underlying23) ?_)
  refine WL.step rfl (Stp.res rfl rfl (Res.lss rfl rfl rfl) ?_)
  refine WL.nil (Thn_n ?_)
  refine CW.iteF rfl (by omega) ?_
  refine CW.skip (Thn_n ?_)
  refine CW.seq ?_
  refine CW.seq ?_
  refine CW.region ?_
  refine WL.step rfl (Stp.res rfl rfl (Res.move rfl rfl) ?_)
  refine WL.step rfl (Stp.res rfl rfl (Res.len rfl rfl rfl rfl Tryd.underlying23) ?_)
  refine WL.step rfl (Stp.res rfl rfl (Res.gtr rfl rfl rfl) ?_)
  refine WL.nil (Thn_n ?_)
  refine CW.iteT rfl (by omega) ?_
  refine CW.seq ?_
  refine CW.region ?_
  refine WL.step rfl (Stp.res rfl rfl (Res.assign rfl rfl) ?_)
  refine WL.step rfl (Stp.res rfl rfl (Res.assign rfl rfl) ?_)
  refine WL.nil (Thn_n ?_)
  refine CW.ret (Thn_r ?_)
  have hlk : Seal.lookE key use b = 3 := by rw [Seal.lookE, if_pos hg, if_neg (by omega), if_pos hl]
  exact fq_tmp2 rfl rfl rfl ⟨M1, hS, hG1.1, hG1.2, _, by rw [Seal.openR_two, hlk], by rw [Seal.openR, if_neg (by rw [hlk]; decide)]; exact Bs.nil _⟩

theorem qopen_seal (kv v : Value) (key b : List UInt8) (use : Int) (w0 : World) (M : PH) (hM : On M w0) (hkey : Bs M kv key) (hb : Bs M v b) (hg : Seal.Good key use) (hl : 32 ≤ b.length ∧ b.length ≤ 4128) (hq : ¬ Seal.tag (Seal.ik key use) (b.take (b.length - 16)) = b.drop (b.length - 16)) : Ok Tryd.prog 20 #[kv, .int .i64 use, v] w0 M (fun M' r => ∃ s, r = .tuple #[s, .int .i64 (Seal.openR key use b).2] ∧ Bs M' s (Seal.openR key use b).1) := by
  have hS := hM.st
  have hb0 := hb
  obtain ⟨va, vc, rfl, v1, v2, v3, v4⟩ := hb
  refine enterB (l := [kv, .int .i64 use, .slice va b.length vc]) 154 Tryd.func20 rfl Tryd.ntmps20 rfl ?_
  refine CW.seq ?_
  refine CW.region ?_
  refine WL.step rfl (Stp.res rfl rfl (Res.assign rfl rfl) ?_)
  refine WL.step rfl (Stp.res rfl rfl (Res.assign rfl rfl) ?_)
  refine WL.nil (Thn_n ?_)
  refine CW.seq ?_
  refine CW.region ?_
  refine WL.step rfl (Stp.res rfl rfl (Res.move rfl rfl) ?_)
  refine WL.step rfl (Stp.res rfl rfl (Res.move rfl rfl) ?_)
  refine WL.step rfl (Stp.callG (args := [_, _]) rfl rfl rfl cal19 rfl rfl hS (qkeys_yes _ key use _ _ hS.on hkey hg) ?_)
  rintro _ w M1 hS hG1 ⟨s, t, rfl, hs, ht⟩
  refine WL.step rfl (Stp.res rfl rfl (Res.move rfl rfl) ?_)
  refine WL.step rfl (Stp.res rfl rfl (Res.extract (l := [_, _, _]) rfl rfl rfl) ?_)
  refine WL.step rfl (Stp.res rfl rfl (Res.extract (l := [_, _, _]) rfl rfl rfl) ?_)
  refine WL.step rfl (Stp.res rfl rfl (Res.extract (l := [_, _, _]) rfl rfl rfl) ?_)
  refine WL.step rfl (Stp.res rfl rfl (Res.assign rfl rfl) ?_)
  refine WL.step rfl (Stp.res rfl rfl (Res.assign rfl rfl) ?_)
  refine WL.step rfl (Stp.res rfl rfl (Res.assign rfl rfl) ?_)
  refine WL.nil (Thn_n ?_)
  refine CW.seq ?_
  refine CW.seq ?_
  refine CW.region ?_
  refine WL.step rfl (Stp.res rfl rfl (Res.move rfl rfl) ?_)
  refine WL.step rfl (Stp.res rfl rfl (Res.neq rfl rfl rfl) ?_)
  refine WL.nil (Thn_n ?_)
  refine CW.iteF rfl (by omega) ?_
  refine CW.skip (Thn_n ?_)
  refine CW.seq ?_
  refine CW.seq ?_
  refine CW.region ?_
  refine WL.step rfl (Stp.res rfl rfl (Res.move rfl rfl) ?_)
  refine WL.step rfl (Stp.res rfl rfl (Res.len rfl rfl rfl rfl Tryd.underlying23) ?_)
  refine WL.step rfl (Stp.res rfl rfl (Res.lss rfl rfl rfl) ?_)
  refine WL.nil (Thn_n ?_)
  refine CW.iteF rfl (by omega) ?_
  refine CW.skip (Thn_n ?_)
  refine CW.seq ?_
  refine CW.seq ?_
  refine CW.region ?_
  refine WL.step rfl (Stp.res rfl rfl (Res.move rfl rfl) ?_)
  refine WL.step rfl (Stp.res rfl rfl (Res.len rfl rfl rfl rfl Tryd.underlying23) ?_)
  refine WL.step rfl (Stp.res rfl rfl (Res.gtr rfl rfl rfl) ?_)
  refine WL.nil (Thn_n ?_)
  refine CW.iteF rfl (by omega) ?_
  refine CW.skip (Thn_n ?_)
  refine CW.seq ?_
  refine CW.region ?_
  refine WL.step rfl (Stp.res rfl rfl (Res.move rfl rfl) ?_)
  refine WL.step rfl (Stp.res rfl rfl (Res.len rfl rfl rfl rfl Tryd.underlying23) ?_)
  refine WL.step rfl (Stp.res rfl rfl (Res.cast (Res.sub rfl rfl rfl (by omega)) (v' := .int .i64 (((b.length - 16) : Nat) : Int)) (by congr 1; omega)) ?_)
  refine WL.step rfl (Stp.res rfl rfl (Res.assign rfl rfl) ?_)
  refine WL.nil (Thn_n ?_)
  refine CW.seq ?_
  refine CW.region ?_
  refine WL.step rfl (Stp.res rfl rfl (Res.move rfl rfl) ?_)
  refine WL.step rfl (Stp.res rfl rfl (Res.move rfl rfl) ?_)
  refine WL.step rfl (Stp.res rfl rfl (Res.sliceHi (h := (b.length - 16)) rfl rfl rfl Tryd.underlying23 sz5 (by omega)) ?_)
  refine WL.step rfl (Stp.res rfl rfl (Res.assign rfl rfl) ?_)
  refine WL.nil (Thn_n ?_)
  refine CW.seq ?_
  refine CW.region ?_
  refine WL.step rfl (Stp.res rfl rfl (Res.move rfl rfl) ?_)
  refine WL.step rfl (Stp.res rfl rfl (Res.move rfl rfl) ?_)
  refine WL.step rfl (Stp.res rfl rfl (Res.move rfl rfl) ?_)
  refine WL.step rfl (Stp.callG (args := [_, _, _]) rfl rfl rfl cal22 rfl rfl hS (qtag_all _ _ key (b.take (b.length - 16)) use _ _ hS.on (hkey.mono hG1.1) ((hb0.mono hG1.1).take (by omega)) (by rw [List.length_take]; omega)) ?_)
  rintro _ w M2 hS hG2 ⟨tg, rfl, htg⟩
  rw [Seal.tagR, if_pos hg] at htg ⊢
  change Bs M2 tg (Seal.tag (Seal.ik key use) (b.take (b.length - 16))) at htg
  refine WL.step rfl (Stp.res rfl rfl (Res.move rfl rfl) ?_)
  refine WL.step rfl (Stp.res rfl rfl (Res.extract (l := [_, _]) rfl rfl rfl) ?_)
  refine WL.step rfl (Stp.res rfl rfl (Res.extract (l := [_, _]) rfl rfl rfl) ?_)
  refine WL.step rfl (Stp.res rfl rfl (Res.assign rfl rfl) ?_)
  refine WL.step rfl (Stp.res rfl rfl (Res.assign rfl rfl) ?_)
  refine WL.nil (Thn_n ?_)
  refine CW.seq ?_
  refine CW.seq ?_
  refine CW.region ?_
  refine WL.step rfl (Stp.res rfl rfl (Res.move rfl rfl) ?_)
  refine WL.step rfl (Stp.res rfl rfl (Res.move rfl rfl) ?_)
  refine WL.step rfl (Stp.res rfl rfl (Res.move rfl rfl) ?_)
  refine WL.step rfl (Stp.res rfl rfl (Res.sliceLo (l := (b.length - 16)) rfl rfl rfl Tryd.underlying23 sz5 (by omega)) ?_)
  refine WL.step rfl (Stp.callA (args := [_, _]) rfl rfl rfl cal14 rfl rfl (samebytes_ok _ _ _ _ M2 _ hS.on htg ((hb0.mono (hG1.trans hG2).1).drop (k := (b.length - 16)) (by omega))) ?_)
  rw [decide_eq_false hq]
  refine WL.step rfl (Stp.res rfl rfl (Res.not rfl rfl rfl) ?_)
  refine WL.nil (Thn_n ?_)
  refine CW.condT rfl ?_
  refine CW.seq ?_
  refine CW.region ?_
  refine WL.step rfl (Stp.res rfl rfl (Res.assign rfl rfl) ?_)
  refine WL.step rfl (Stp.res rfl rfl (Res.assign rfl rfl) ?_)
  refine WL.nil (Thn_n ?_)
  refine CW.ret (Thn_r ?_)
  have hlk : Seal.lookE key use b = 70 := by rw [Seal.lookE_mid hg hl.1 hl.2, if_neg hq]
  exact fq_tmp2 rfl rfl rfl ⟨M2, hS, (hG1.trans hG2).1, (hG1.trans hG2).2, _, by rw [Seal.openR_two, hlk], by rw [Seal.openR, if_neg (by rw [hlk]; decide)]; exact Bs.nil _⟩
end Go.Proofs.YtcmgimicdcchlaaDoor
set_option linter.unusedVariables false
set_option maxRecDepth 20000
namespace Go.Proofs.YtcmgimicdcchlaaDoor
open Go Go.E
theorem qopen_one (kv v : Value) (key b : List UInt8) (use : Int) (w0 : World) (M : PH) (hM : On M w0) (hkey : Bs M kv key) (hb : Bs M v b) (hg : Seal.Good key use) (hl : 32 ≤ b.length ∧ b.length ≤ 4128) (hq : Seal.tag (Seal.ik key use) (b.take (b.length - 16)) = b.drop (b.length - 16)) (hm2 : b.length = 32) : Ok Tryd.prog 20 #[kv, .int .i64 use, v] w0 M (fun M' r => ∃ s, r = .tuple #[s, .int .i64 (Seal.openR key use b).2] ∧ Bs M' s (Seal.openR key use b).1) := by
  have hS := hM.st
  have hb0 := hb
  obtain ⟨va, vc, rfl, v1, v2, v3, v4⟩ := hb
  have hbt : (b.take (b.length - 16)).length = (b.length - 16) := by rw [List.length_take]; omega
  have hWl := Seal.whole_length (Seal.ek key use) (b.take (b.length - 16)) (by omega)
  rw [hbt] at hWl
  have hmm : (Seal.ceil (b.length - 16) / 16) * 16 = Seal.ceil (b.length - 16) ∧ (b.length - 16) ≤ Seal.ceil (b.length - 16) ∧ Seal.ceil (b.length - 16) < (b.length - 16) + 16 := by
    have := Seal.ceil_ge (b.length - 16)
    omega
  have hm1 : (Seal.ceil (b.length - 16) / 16) = 1 := by omega
  refine enterB (l := [kv, .int .i64 use, .slice va b.length vc]) 154 Tryd.func20 rfl Tryd.ntmps20 rfl ?_
  refine CW.seq ?_
  refine CW.region ?_
  refine WL.step rfl (Stp.res rfl rfl (Res.assign rfl rfl) ?_)
  refine WL.step rfl (Stp.res rfl rfl (Res.assign rfl rfl) ?_)
  refine WL.nil (Thn_n ?_)
  refine CW.seq ?_
  refine CW.region ?_
  refine WL.step rfl (Stp.res rfl rfl (Res.move rfl rfl) ?_)
  refine WL.step rfl (Stp.res rfl rfl (Res.move rfl rfl) ?_)
  refine WL.step rfl (Stp.callG (args := [_, _]) rfl rfl rfl cal19 rfl rfl hS (qkeys_yes _ key use _ _ hS.on hkey hg) ?_)
  rintro _ w M1 hS hG1 ⟨s, t, rfl, hs, ht⟩
  refine WL.step rfl (Stp.res rfl rfl (Res.move rfl rfl) ?_)
  refine WL.step rfl (Stp.res rfl rfl (Res.extract (l := [_, _, _]) rfl rfl rfl) ?_)
  refine WL.step rfl (Stp.res rfl rfl (Res.extract (l := [_, _, _]) rfl rfl rfl) ?_)
  refine WL.step rfl (Stp.res rfl rfl (Res.extract (l := [_, _, _]) rfl rfl rfl) ?_)
  refine WL.step rfl (Stp.res rfl rfl (Res.assign rfl rfl) ?_)
  refine WL.step rfl (Stp.res rfl rfl (Res.assign rfl rfl) ?_)
  refine WL.step rfl (Stp.res rfl rfl (Res.assign rfl rfl) ?_)
  refine WL.nil (Thn_n ?_)
  refine CW.seq ?_
  refine CW.seq ?_
  refine CW.region ?_
  refine WL.step rfl (Stp.res rfl rfl (Res.move rfl rfl) ?_)
  refine WL.step rfl (Stp.res rfl rfl (Res.neq rfl rfl rfl) ?_)
  refine WL.nil (Thn_n ?_)
  refine CW.iteF rfl (by omega) ?_
  refine CW.skip (Thn_n ?_)
  refine CW.seq ?_
  refine CW.seq ?_
  refine CW.region ?_
  refine WL.step rfl (Stp.res rfl rfl (Res.move rfl rfl) ?_)
  refine WL.step rfl (Stp.res rfl rfl (Res.len rfl rfl rfl rfl Tryd.underlying23) ?_)
  refine WL.step rfl (Stp.res rfl rfl (Res.lss rfl rfl rfl) ?_)
  refine WL.nil (Thn_n ?_)
  refine CW.iteF rfl (by omega) ?_
  refine CW.skip (Thn_n ?_)
  refine CW.seq ?_
  refine CW.seq ?_
  refine CW.region ?_
  refine WL.step rfl (Stp.res rfl rfl (Res.move rfl rfl) ?_)
  refine WL.step rfl (Stp.res rfl rfl (Res.len rfl rfl rfl rfl Tryd.underlying23) ?_)
  refine WL.step rfl (Stp.res rfl rfl (Res.gtr rfl rfl rfl) ?_)
  refine WL.nil (Thn_n ?_)
  refine CW.iteF rfl (by omega) ?_
  refine CW.skip (Thn_n ?_)
  refine CW.seq ?_
  refine CW.region ?_
  refine WL.step rfl (Stp.res rfl rfl (Res.move rfl rfl) ?_)
  refine WL.step rfl (Stp.res rfl rfl (Res.len rfl rfl rfl rfl Tryd.underlying23) ?_)
  refine WL.step rfl (Stp.res rfl rfl (Res.cast (Res.sub rfl rfl rfl (by omega)) (v' := .int .i64 (((b.length - 16) : Nat) : Int)) (by congr 1; omega)) ?_)
  refine WL.step rfl (Stp.res rfl rfl (Res.assign rfl rfl) ?_)
  refine WL.nil (Thn_n ?_)
  refine CW.seq ?_
  refine CW.region ?_
  refine WL.step rfl (Stp.res rfl rfl (Res.move rfl rfl) ?_)
  refine WL.step rfl (Stp.res rfl rfl (Res.move rfl rfl) ?_)
  refine WL.step rfl (Stp.res rfl rfl (Res.sliceHi (h := (b.length - 16)) rfl rfl rfl Tryd.underlying23 sz5 (by omega)) ?_)
  refine WL.step rfl (Stp.res rfl rfl (Res.assign rfl rfl) ?_)
  refine WL.nil (Thn_n ?_)
  refine CW.seq ?_
  refine CW.region ?_
  refine WL.step rfl (Stp.res rfl rfl (Res.move rfl rfl) ?_)
  refine WL.step rfl (Stp.res rfl rfl (Res.move rfl rfl) ?_)
  refine WL.step rfl (Stp.res rfl rfl (Res.move rfl rfl) ?_)
  refine WL.step rfl (Stp.callG (args := [_, _, _]) rfl rfl rfl cal22 rfl rfl hS (qtag_all _ _ key (b.take (b.length - 16)) use _ _ hS.on (hkey.mono hG1.1) ((hb0.mono hG1.1).take (by omega)) (by rw [List.length_take]; omega)) ?_)
  rintro _ w M2 hS hG2 ⟨tg, rfl, htg⟩
  rw [Seal.tagR, if_pos hg] at htg ⊢
  change Bs M2 tg (Seal.tag (Seal.ik key use) (b.take (b.length - 16))) at htg
  refine WL.step rfl (Stp.res rfl rfl (Res.move rfl rfl) ?_)
  refine WL.step rfl (Stp.res rfl rfl (Res.extract (l := [_, _]) rfl rfl rfl) ?_)
  refine WL.step rfl (Stp.res rfl rfl (Res.extract (l := [_, _]) rfl rfl rfl) ?_)
  refine WL.step rfl (Stp.res rfl rfl (Res.assign rfl rfl) ?_)
  refine WL.step rfl (Stp.res rfl rfl (Res.assign rfl rfl) ?_)
  refine WL.nil (Thn_n ?_)
  refine CW.seq ?_
  refine CW.seq ?_
  refine CW.region ?_
  refine WL.step rfl (Stp.res rfl rfl (Res.move rfl rfl) ?_)
  refine WL.step rfl (Stp.res rfl rfl (Res.move rfl rfl) ?_)
  refine WL.step rfl (Stp.res rfl rfl (Res.move rfl rfl) ?_)
  refine WL.step rfl (Stp.res rfl rfl (Res.sliceLo (l := (b.length - 16)) rfl rfl rfl Tryd.underlying23 sz5 (by omega)) ?_)
  refine WL.step rfl (Stp.callA (args := [_, _]) rfl rfl rfl cal14 rfl rfl (samebytes_t _ _ _ _ M2 _ hS.on htg ((hb0.mono (hG1.trans hG2).1).drop (k := (b.length - 16)) (by omega)) hq) ?_)
  have hcb := (hb0.mono (hG1.trans hG2).1).take (h := (b.length - 16)) (by omega)
  refine WL.step rfl (Stp.res rfl rfl (Res.not rfl rfl rfl) ?_)
  refine WL.nil (Thn_n ?_)
  refine CW.condF rfl ?_
  refine CW.skip (Thn_n ?_)
  refine CW.seq ?_
  refine CW.region ?_
  refine WL.step rfl (Stp.lit (vals := []) (cs := #[]) (e := 23) rfl rfl (fun _ => by kernel_rfl) rfl rfl hS ?_)
  intro b64 w hb64 hS hkp hnw
  refine WL.step rfl (Stp.res rfl rfl (Res.assign rfl rfl) ?_)
  refine WL.nil (Thn_n ?_)
  refine CW.seq ?_
  have hown := own_nil0 w0.heap.size b64 23 hb64
  refine CW.region ?_
  refine WL.step rfl (Stp.res rfl rfl (Res.move rfl rfl) ?_)
  refine WL.step rfl (Stp.res rfl rfl (Res.add rfl rfl rfl (by omega)) ?_)
  refine WL.step rfl (Stp.res rfl rfl (Res.cast (Res.quo rfl rfl rfl (by omega)) (v' := .int .i64 (((Seal.ceil (b.length - 16) / 16) : Nat) : Int)) (by congr 1; unfold Seal.ceil; omega)) ?_)
  refine WL.step rfl (Stp.res rfl rfl (Res.assign rfl rfl) ?_)
  refine WL.nil (Thn_n ?_)
  refine CW.seq ?_
  refine CW.seq ?_
  refine CW.region ?_
  refine WL.step rfl (Stp.res rfl rfl (Res.assign rfl rfl) ?_)
  refine WL.nil (Thn_n ?_)
  refine CW.block ?_
  refine CW.loop (σ := Nat × PH × Value × Owned × List Value) (fun s_ => [(8, s), (11, .int .i64 (((b.length - 16) : Nat) : Int)), (12, .slice va (b.length - 16) vc), (15, s_.2.2.1), (16, .int .i64 (((Seal.ceil (b.length - 16) / 16) : Nat) : Int)), (17, .int .i64 (s_.1 : Int))])
    (fun s_ w' => s_.1 ≤ (Seal.ceil (b.length - 16) / 16) ∧ Grow w0.heap.size M2 s_.2.1 ∧ St w0 w' s_.2.1 (s_.2.2.2.1 ++ []) ∧ Own w0.heap.size s_.2.2.2.1 s_.2.2.1 s_.1 1 s_.2.2.2.2 23 ∧ Bl s_.2.1 s_.2.2.2.2 (Seal.fullB (Seal.ek key use) (b.take (b.length - 16)) (Seal.ceil (b.length - 16) / 16)) s_.1) (fun s_ => (Seal.ceil (b.length - 16) / 16) - s_.1) (0, M2, _, _, []) ⟨rfl, rfl, rfl, rfl, rfl, rfl, trivial⟩ ⟨by dsimp only; omega, Grow.refl _ _, hS, by dsimp only; skip; exact hown, by dsimp only; skip; exact Bl.nil _ _⟩ ?_
  rintro ⟨i, MJ, bv, g, xs⟩ w1 ⟨hi, hGJ, hS, hown, hbl⟩
  dsimp only at hi hGJ hS hown hbl ⊢
  rcases (by omega : i = 0 ∨ i = 1) with hcs | hcs
  · skip
    refine CW.seq ?_
    refine CW.seq ?_
    refine CW.region ?_
    refine WL.step rfl (Stp.res rfl rfl (Res.move rfl rfl) ?_)
    refine WL.step rfl (Stp.res rfl rfl (Res.move rfl rfl) ?_)
    refine WL.step rfl (Stp.res rfl rfl (Res.lss rfl rfl rfl) ?_)
    refine WL.nil (Thn_n ?_)
    refine CW.iteT rfl (by omega) ?_
    refine CW.skip (Thn_n ?_)
    refine CW.seq ?_
    refine CW.block ?_
    refine CW.seq ?_
    refine CW.region ?_
    refine WL.step rfl (Stp.res rfl rfl (Res.move rfl rfl) ?_)
    refine WL.step rfl (Stp.res rfl rfl (Res.move rfl rfl) ?_)
    refine WL.step rfl (Stp.res rfl rfl (Res.sub rfl rfl rfl (by omega)) ?_)
    refine WL.step rfl (Stp.res rfl rfl (Res.toF (Res.lss rfl rfl rfl) (by omega)) ?_)
    refine WL.step rfl (Stp.res rfl rfl (Res.move rfl rfl) ?_)
    refine WL.stepG 4 false rfl rfl rfl rfl (Stp.res rfl rfl (Res.move rfl rfl) ?_)
    refine WL.stepG 4 false rfl rfl rfl rfl (Stp.res rfl rfl (Res.to (Res.eql rfl rfl rfl) (by omega)) ?_)
    refine WL.step rfl (Stp.res rfl rfl (Res.pickF rfl rfl rfl) ?_)
    refine WL.nil (Thn_n ?_)
    refine CW.condT rfl ?_
    refine CW.region ?_
    refine WL.step rfl (Stp.res rfl rfl (Res.move rfl rfl) ?_)
    refine WL.step rfl (Stp.res rfl rfl (Res.move rfl rfl) ?_)
    refine WL.step rfl (Stp.res rfl rfl (Res.move rfl rfl) ?_)
    refine WL.step rfl (Stp.res rfl rfl (Res.cast (Res.mul rfl rfl rfl (by omega)) (v' := .int .i64 ((16 * i : Nat) : Int)) (by congr 1)) ?_)
    refine WL.step rfl (Stp.res rfl rfl (Res.move rfl rfl) ?_)
    refine WL.step rfl (Stp.res rfl rfl (Res.cast (Res.mul rfl rfl rfl (by omega)) (v' := .int .i64 ((16 * i : Nat) : Int)) (by congr 1)) ?_)
    refine WL.step rfl (Stp.res rfl rfl (Res.cast (Res.add rfl rfl rfl (by omega)) (v' := .int .i64 ((16 * i + 16 : Nat) : Int)) (by congr 1)) ?_)
    refine WL.step rfl (Stp.res rfl rfl (Res.cast (Res.sliceLH (l := 16 * i) (h := 16 * i + 16) rfl rfl rfl rfl Tryd.underlying23 sz5 (by omega)) (v' := .slice (if vc = 16 * i then va else va.map (·.add (16 * i))) 16 (vc - (16 * i))) (by congr 1; omega)) ?_)
    refine WL.step rfl (Stp.lit (vals := [(0, .slice (if vc = 16 * i then va else va.map (·.add (16 * i))) 16 (vc - (16 * i)))]) (cs := #[.slice (if vc = 16 * i then va else va.map (·.add (16 * i))) 16 (vc - (16 * i))]) (e := 23) rfl rfl (fun _ => by kernel_rfl) rfl rfl hS ?_)
    intro b89 w hb89 hS hkp hnw
    have hF := hS.freezeG (i := 0) rfl hb89
    obtain ⟨M5, hG5, hlit, hS⟩ : ∃ M5, Grow w0.heap.size MJ M5 ∧ Vs M5 (.slice (some ⟨b89, 0, none⟩) 1 1) [.slice (if vc = 16 * i then va else va.map (·.add (16 * i))) 16 (vc - (16 * i))] ∧ St w0 w M5 (g ++ []) := ⟨_, hF.2, Vs.of (PH.add_self _ _ _) rfl rfl (by decide), hF.1⟩
    refine WL.step rfl (Stp.append (sz := 1) (m := 1) (k := i) (xs := xs) rfl rfl rfl rfl et70 (by decide) rfl (Src.ofVs Tryd.underlying70 hS hlit (by intro x hx; simp at hx; subst hx; rfl)) hS hown (by omega) (by omega) rfl rfl ?_)
    intro bv2 w g2 hS hown
    refine WL.step rfl (Stp.res rfl rfl (Res.assign rfl rfl) ?_)
    refine WL.nil (Blk_n (Thn_n ?_))
    refine CW.region ?_
    refine WL.step rfl (Stp.res rfl rfl (Res.move rfl rfl) ?_)
    refine WL.step rfl (Stp.res rfl rfl (Res.add rfl rfl rfl (by omega)) ?_)
    refine WL.step rfl (Stp.res rfl rfl (Res.assign rfl rfl) ?_)
    refine WL.nil (Thn_n ?_)
    have hyb : Bs M5 (.slice (if vc = 16 * i then va else va.map (·.add (16 * i))) 16 (vc - (16 * i))) ((Seal.fullB (Seal.ek key use) (b.take (b.length - 16)) (Seal.ceil (b.length - 16) / 16)) i) := by
      have h := (((hcb.mono hGJ.1).drop (k := 16 * i) (by omega)).take (h := 16) (by rw [List.length_drop]; omega)).mono hG5.1
      have e : (Seal.fullB (Seal.ek key use) (b.take (b.length - 16)) (Seal.ceil (b.length - 16) / 16)) i = Seal.blk (b.take (b.length - 16)) i := by rw [Seal.fullB]; rw [if_pos (by omega)]
      rw [e]
      exact h
    exact ⟨(i + 1, M5, bv2, g2, xs ++ [_]), ⟨rfl, rfl, rfl, rfl, rfl, rfl, trivial⟩, ⟨by dsimp only; omega, hGJ.trans hG5, hS, by dsimp only; skip; exact hown, by dsimp only; skip; exact (hbl.mono hG5.1).snoc hyb⟩, by dsimp only; omega⟩
  · skip
    refine CW.seq ?_
    refine CW.seq ?_
    refine CW.region ?_
    refine WL.step rfl (Stp.res rfl rfl (Res.move rfl rfl) ?_)
    refine WL.step rfl (Stp.res rfl rfl (Res.move rfl rfl) ?_)
    refine WL.step rfl (Stp.res rfl rfl (Res.lss rfl rfl rfl) ?_)
    refine WL.nil (Thn_n ?_)
    refine CW.iteF rfl (by omega) ?_
    refine CW.exit (Thn_x (Thn_x (Blk_x (Thn_n ?_))))
    refine CW.seq ?_
    refine CW.seq ?_
    refine CW.region ?_
    refine WL.step rfl (Stp.res rfl rfl (Res.move rfl rfl) ?_)
    refine WL.step rfl (Stp.res rfl rfl (Res.gtr rfl rfl rfl) ?_)
    refine WL.nil (Thn_n ?_)
    refine CW.iteF rfl (by omega) ?_
    refine CW.skip (Thn_n ?_)
    refine CW.seq ?_
    obtain ⟨M6, hM6, hG6⟩ : ∃ M6, M6 = MJ ∧ Grow w0.heap.size MJ M6 := ⟨MJ, rfl, Grow.refl _ _⟩
    subst hM6
    obtain ⟨xs2, hxs2⟩ : ∃ xs2, xs2 = xs := ⟨_, rfl⟩
    subst hxs2
    obtain rfl : i = 1 := by omega
    have hblk : ∀ q, q = 1 → Bl M6 xs2 (Seal.fullB (Seal.ek key use) (b.take (b.length - 16)) (Seal.ceil (b.length - 16) / 16)) q := fun q hq => by subst hq; exact hbl
    have hown : ∀ q, q = 1 → Own w0.heap.size g bv q 1 xs2 23 := fun q hq => by subst hq; exact hown
    have hblk := hblk (Seal.ceil (b.length - 16) / 16) hm1
    have hown := hown (Seal.ceil (b.length - 16) / 16) hm1
    obtain ⟨MX, hS, hGX, hfull⟩ := Own.give hown hS
    obtain ⟨fb, fo, fcp, rfl, fl1, fl2, fcell⟩ := hfull.at (by rw [hblk.1]; omega)
    rw [hblk.1] at fl1
    rw [hblk.1]
    have hblk := hblk.mono hGX.1
    refine CW.region ?_
    refine WL.step rfl (Stp.lit (vals := []) (cs := bs []) (e := 5) rfl rfl (fun _ => by kernel_rfl) rfl rfl hS ?_)
    intro b124 w hb124 hS hkp hnw
    refine WL.step rfl (Stp.res rfl rfl (Res.assign rfl rfl) ?_)
    refine WL.nil (Thn_n ?_)
    refine CW.seq ?_
    refine CW.region ?_
    refine WL.step rfl (Stp.makeB (k := 16) (c := 16) rfl rfl rfl et23 ⟨Nat.le_refl 16, by decide⟩ rfl rfl hS ?_)
    intro b125 w hb125 hS hkp hnw
    refine WL.step rfl (Stp.res rfl rfl (Res.assign rfl rfl) ?_)
    refine WL.nil (Thn_n ?_)
    refine CW.seq ?_
    refine CW.seq ?_
    have hF := hS.freezeG (i := 0) rfl hb125
    obtain ⟨MC, hGC, hz, hS⟩ : ∃ MC, Grow w0.heap.size MX MC ∧ Bs MC (.slice (some ⟨b125, 0, none⟩) 16 16) (List.replicate 16 0) ∧ St w0 w MC ([(b124, .cells (bs []) 5 (0, 0))] ++ []) := ⟨_, hF.2, Bs.of' (PH.add_self _ _ _) (List.length_replicate ..) (by omega), hF.1⟩
    refine CW.region ?_
    refine WL.step rfl (Stp.res rfl rfl (Res.assign rfl rfl) ?_)
    refine WL.nil (Thn_n ?_)
    refine CW.block ?_
    refine CW.loop (σ := Nat × PH × Value × Value × Owned) (fun s_ => [(8, s), (11, .int .i64 (((b.length - 16) : Nat) : Int)), (15, .slice (some ⟨fb, fo, none⟩) (Seal.ceil (b.length - 16) / 16) fcp), (16, .int .i64 (((Seal.ceil (b.length - 16) / 16) : Nat) : Int)), (24, s_.2.2.2.1), (25, s_.2.2.1), (26, .int .i64 (s_.1 : Int))])
      (fun s_ w' => s_.1 ≤ (Seal.ceil (b.length - 16) / 16) ∧ Grow w0.heap.size MC s_.2.1 ∧ St w0 w' s_.2.1 (s_.2.2.2.2 ++ []) ∧ Bs s_.2.1 s_.2.2.1 (Seal.prev (Seal.whole (Seal.ek key use) (b.take (b.length - 16))) s_.1) ∧ OwnB w0.heap.size s_.2.2.2.2 s_.2.2.2.1 (Seal.uo (Seal.ek key use) (Seal.whole (Seal.ek key use) (b.take (b.length - 16))) s_.1) 5) (fun s_ => (Seal.ceil (b.length - 16) / 16) - s_.1) (0, MC, _, _, _) ⟨rfl, rfl, rfl, rfl, rfl, rfl, rfl, trivial⟩ ⟨by dsimp only; omega, Grow.refl _ _, hS, hz, OwnB.of hb124 (Nat.le_refl 0) (by omega) [] rfl rfl⟩ ?_
    rintro ⟨j, MJ2, lv, ov, g7⟩ w2 ⟨hj, hGJ2, hS, hlast, hown⟩
    dsimp only at hj hGJ2 hS hlast hown ⊢
    refine CW.seq ?_
    refine CW.seq ?_
    refine CW.region ?_
    refine WL.step rfl (Stp.res rfl rfl (Res.move rfl rfl) ?_)
    refine WL.step rfl (Stp.res rfl rfl (Res.move rfl rfl) ?_)
    refine WL.step rfl (Stp.res rfl rfl (Res.lss rfl rfl rfl) ?_)
    refine WL.nil (Thn_n ?_)
    refine CW.ite rfl (fun h => ?_) (fun h => ?_)
    · have hlt : j < (Seal.ceil (b.length - 16) / 16) := by omega
      obtain ⟨y, hy, hby⟩ := hblk.2 j hlt
      rw [Seal.fullB_whole (Seal.ek key use) (b.take (b.length - 16)) (by omega) (by rw [hbt]) hlt] at hby
      refine CW.skip (Thn_n ?_)
      refine CW.seq ?_
      refine CW.block ?_
      refine CW.seq ?_
      refine CW.region ?_
      refine WL.step rfl (Stp.res rfl rfl (Res.move rfl rfl) ?_)
      refine WL.step rfl (Stp.res rfl rfl (Res.move rfl rfl) ?_)
      refine WL.step rfl (Stp.res rfl rfl (Res.move rfl rfl) ?_)
      refine WL.step rfl (Stp.res rfl rfl (Res.idxS1 (k := j) rfl rfl rfl Tryd.underlying70 sz23 (Int.toNat_natCast _) (by omega)) ?_)
      refine WL.step rfl (Stp.res rfl rfl (Res.load1 (v := y) rfl rfl Tryd.underlying23 rfl (hS.cell (PH.cell_mono hGJ2.1 (PH.cell_mono hGC.1 (fcell j y hy))))) ?_)
      refine WL.step rfl (Stp.callG (args := [_, _]) rfl rfl rfl cal42 rfl rfl hS (rdecrypt_ok _ _ (Seal.ek key use) (Seal.blk (Seal.whole (Seal.ek key use) (b.take (b.length - 16))) j) _ _ hS.on (hs.mono (((((hG2.trans hGJ).trans hG6).trans hGX).trans hGC).trans hGJ2).1) (hby.mono (hGC.trans hGJ2).1) (Seal.ek_length ..) (Seal.blk_length (by omega))) ?_)
      rintro _ w M7 hS hG7 ⟨xv, rfl, hxv⟩
      refine WL.step rfl (Stp.res rfl rfl (Res.move rfl rfl) ?_)
      refine WL.step rfl (Stp.res rfl rfl (Res.extract (l := [_, _]) rfl rfl rfl) ?_)
      refine WL.step rfl (Stp.res rfl rfl (Res.extract (l := [_, _]) rfl rfl rfl) ?_)
      refine WL.step rfl (Stp.res rfl rfl (Res.assign rfl rfl) ?_)
      refine WL.step rfl (Stp.res rfl rfl (Res.assign rfl rfl) ?_)
      refine WL.nil (Thn_n ?_)
      refine CW.seq ?_
      refine CW.region ?_
      refine WL.step rfl (Stp.res rfl rfl (Res.move rfl rfl) ?_)
      refine WL.step rfl (Stp.res rfl rfl (Res.move rfl rfl) ?_)
      refine WL.step rfl (Stp.res rfl rfl (Res.move rfl rfl) ?_)
      refine WL.step rfl (Stp.callG (args := [_, _]) rfl rfl rfl cal43 rfl rfl hS (qxor_ok _ _ (Aes.dec (Seal.ek key use) (Seal.blk (Seal.whole (Seal.ek key use) (b.take (b.length - 16))) j)) (Seal.prev (Seal.whole (Seal.ek key use) (b.take (b.length - 16))) j) _ _ hS.on hxv (hlast.mono hG7.1) (Aes.dec_length ..) (Seal.prev_length (by omega))) ?_)
      rintro yv w M8 hS hG8 hyv
      refine WL.step rfl (Stp.appendB (l := Seal.uo (Seal.ek key use) (Seal.whole (Seal.ek key use) (b.take (b.length - 16))) j) (r := Aes.xorB (Aes.dec (Seal.ek key use) (Seal.blk (Seal.whole (Seal.ek key use) (b.take (b.length - 16))) j)) (Seal.prev (Seal.whole (Seal.ek key use) (b.take (b.length - 16))) j)) rfl rfl rfl rfl et23 (Src.ofBs Tryd.underlying23 hS hyv) hS hown (by simp; omega) rfl rfl ?_)
      intro ov2 w g3 hS hown
      refine WL.step rfl (Stp.res rfl rfl (Res.assign rfl rfl) ?_)
      refine WL.nil (Thn_n ?_)
      refine CW.region ?_
      refine WL.step rfl (Stp.res rfl rfl (Res.move rfl rfl) ?_)
      refine WL.step rfl (Stp.res rfl rfl (Res.move rfl rfl) ?_)
      refine WL.step rfl (Stp.res rfl rfl (Res.idxS1 (k := j) rfl rfl rfl Tryd.underlying70 sz23 (Int.toNat_natCast _) (by omega)) ?_)
      refine WL.step rfl (Stp.res rfl rfl (Res.load1 (v := y) rfl rfl Tryd.underlying23 rfl (hS.cell (PH.cell_mono ((hGJ2.trans hG7).trans hG8).1 (PH.cell_mono hGC.1 (fcell j y hy))))) ?_)
      refine WL.step rfl (Stp.res rfl rfl (Res.assign rfl rfl) ?_)
      refine WL.nil (Blk_n (Thn_n ?_))
      refine CW.region ?_
      refine WL.step rfl (Stp.res rfl rfl (Res.move rfl rfl) ?_)
      refine WL.step rfl (Stp.res rfl rfl (Res.add rfl rfl rfl (by omega)) ?_)
      refine WL.step rfl (Stp.res rfl rfl (Res.assign rfl rfl) ?_)
      refine WL.nil (Thn_n ?_)
      exact ⟨(j + 1, M8, y, ov2, g3), ⟨rfl, rfl, rfl, rfl, rfl, rfl, rfl, trivial⟩, ⟨by dsimp only; omega, (hGJ2.trans hG7).trans hG8, hS, hby.mono (((hGC.trans hGJ2).trans hG7).trans hG8).1, hown⟩, by dsimp only; omega⟩
    · obtain rfl : j = (Seal.ceil (b.length - 16) / 16) := by omega
      have hul := Seal.uo_length (Seal.ek key use) (Seal.whole (Seal.ek key use) (b.take (b.length - 16))) (Seal.ceil (b.length - 16) / 16)
      obtain ⟨ob, rest, cp, hob, rfl, rfl, hc1, hc2⟩ := hown.gb (by omega)
      have hF := hS.freezeG (i := 0) rfl hob
      obtain ⟨M9, hG9, hM9, hS⟩ : ∃ M9, Grow w0.heap.size MJ2 M9 ∧ M9 ob = some (.cells (Gb (Seal.uo (Seal.ek key use) (Seal.whole (Seal.ek key use) (b.take (b.length - 16))) (Seal.ceil (b.length - 16) / 16)) rest) 5 (0, 0)) ∧ St w0 w2 M9 [] := ⟨_, hF.2, PH.add_self _ _ _, hF.1⟩
      have hres0 := (Bs.ofGb (k := (b.length - 16)) (cap := cp) hM9 (by omega) (by omega) hc2).drop (k := 16) (by rw [List.length_take]; omega)
      have hres : Bs M9 (.slice (if cp = 16 then some ⟨ob, 0, none⟩ else (some (⟨ob, 0, none⟩ : Addr)).map (·.add 16)) ((b.length - 16) - 16) (cp - 16)) (Seal.opened (Seal.ek key use) (b.take (b.length - 16))) := by
        rw [Seal.opened, hbt, hWl]
        exact hres0
      refine CW.exit (Thn_x (Thn_x (Blk_x (Thn_n ?_))))
      refine CW.seq ?_
      refine CW.region ?_
      refine WL.step rfl (Stp.lit (vals := []) (cs := bs []) (e := 5) rfl rfl (fun _ => by kernel_rfl) rfl rfl hS ?_)
      intro b149 w hb149 hS hkp hnw
      refine WL.step rfl (Stp.res rfl rfl (Res.move rfl rfl) ?_)
      refine WL.step rfl (Stp.res rfl rfl (Res.move rfl rfl) ?_)
      refine WL.step rfl (Stp.res rfl rfl (Res.sliceLH (l := 16) (h := (b.length - 16)) rfl rfl rfl rfl Tryd.underlying23 sz5 (by omega)) ?_)
      refine WL.step rfl (Stp.appendB (l := []) (r := Seal.opened (Seal.ek key use) (b.take (b.length - 16))) rfl rfl rfl rfl et23 (Src.ofBs Tryd.underlying23 hS hres) hS (OwnB.of hb149 (Nat.le_refl 0) (by omega) [] rfl rfl) (by have := hres.len_le; simp [Seal.opened]; omega) rfl rfl ?_)
      intro fv w g4 hS hown
      obtain ⟨M10, hS, hle10, hfr10, hfin⟩ := hown.give hS
      refine WL.step rfl (Stp.res rfl rfl (Res.assign rfl rfl) ?_)
      refine WL.step rfl (Stp.res rfl rfl (Res.assign rfl rfl) ?_)
      refine WL.nil (Thn_n ?_)
      refine CW.ret ?_
      have hlk : Seal.lookE key use b = 0 := by rw [Seal.lookE_mid hg hl.1 hl.2, if_pos hq]
      have hGA := (((((((hG1.trans hG2).trans hGJ).trans hG6).trans hGX).trans hGC).trans hGJ2).trans hG9).trans ⟨hle10, hfr10⟩
      exact fq_tmp2 rfl rfl rfl ⟨M10, hS, hGA.1, hGA.2, _, by rw [Seal.openR, if_pos hlk], by rw [Seal.openR, if_pos hlk]; exact hfin⟩
end Go.Proofs.YtcmgimicdcchlaaDoor
set_option linter.unusedVariables false
set_option maxRecDepth 20000
namespace Go.Proofs.YtcmgimicdcchlaaDoor
open Go Go.E
theorem qopen_more (kv v : Value) (key b : List UInt8) (use : Int) (w0 : World) (M : PH) (hM : On M w0) (hkey : Bs M kv key) (hb : Bs M v b) (hg : Seal.Good key use) (hl : 32 ≤ b.length ∧ b.length ≤ 4128) (hq : Seal.tag (Seal.ik key use) (b.take (b.length - 16)) = b.drop (b.length - 16)) (hm2 : 32 < b.length) : Ok Tryd.prog 20 #[kv, .int .i64 use, v] w0 M (fun M' r => ∃ s, r = .tuple #[s, .int .i64 (Seal.openR key use b).2] ∧ Bs M' s (Seal.openR key use b).1) := by
  have hS := hM.st
  have hb0 := hb
  obtain ⟨va, vc, rfl, v1, v2, v3, v4⟩ := hb
  have hbt : (b.take (b.length - 16)).length = (b.length - 16) := by rw [List.length_take]; omega
  have hWl := Seal.whole_length (Seal.ek key use) (b.take (b.length - 16)) (by omega)
  rw [hbt] at hWl
  have hmm : (Seal.ceil (b.length - 16) / 16) * 16 = Seal.ceil (b.length - 16) ∧ (b.length - 16) ≤ Seal.ceil (b.length - 16) ∧ Seal.ceil (b.length - 16) < (b.length - 16) + 16 := by
    have := Seal.ceil_ge (b.length - 16)
    omega
  have hm1 : 2 ≤ (Seal.ceil (b.length - 16) / 16) := by omega
  refine enterB (l := [kv, .int .i64 use, .slice va b.length vc]) 154 Tryd.func20 rfl Tryd.ntmps20 rfl ?_
  refine CW.seq ?_
  refine CW.region ?_
  refine WL.step rfl (Stp.res rfl rfl (Res.assign rfl rfl) ?_)
  refine WL.step rfl (Stp.res rfl rfl (Res.assign rfl rfl) ?_)
  refine WL.nil (Thn_n ?_)
  refine CW.seq ?_
  refine CW.region ?_
  refine WL.step rfl (Stp.res rfl rfl (Res.move rfl rfl) ?_)
  refine WL.step rfl (Stp.res rfl rfl (Res.move rfl rfl) ?_)
  refine WL.step rfl (Stp.callG (args := [_, _]) rfl rfl rfl cal19 rfl rfl hS (qkeys_yes _ key use _ _ hS.on hkey hg) ?_)
  rintro _ w M1 hS hG1 ⟨s, t, rfl, hs, ht⟩
  refine WL.step rfl (Stp.res rfl rfl (Res.move rfl rfl) ?_)
  refine WL.step rfl (Stp.res rfl rfl (Res.extract (l := [_, _, _]) rfl rfl rfl) ?_)
  refine WL.step rfl (Stp.res rfl rfl (Res.extract (l := [_, _, _]) rfl rfl rfl) ?_)
  refine WL.step rfl (Stp.res rfl rfl (Res.extract (l := [_, _, _]) rfl rfl rfl) ?_)
  refine WL.step rfl (Stp.res rfl rfl (Res.assign rfl rfl) ?_)
  refine WL.step rfl (Stp.res rfl rfl (Res.assign rfl rfl) ?_)
  refine WL.step rfl (Stp.res rfl rfl (Res.assign rfl rfl) ?_)
  refine WL.nil (Thn_n ?_)
  refine CW.seq ?_
  refine CW.seq ?_
  refine CW.region ?_
  refine WL.step rfl (Stp.res rfl rfl (Res.move rfl rfl) ?_)
  refine WL.step rfl (Stp.res rfl rfl (Res.neq rfl rfl rfl) ?_)
  refine WL.nil (Thn_n ?_)
  refine CW.iteF rfl (by omega) ?_
  refine CW.skip (Thn_n ?_)
  refine CW.seq ?_
  refine CW.seq ?_
  refine CW.region ?_
  refine WL.step rfl (Stp.res rfl rfl (Res.move rfl rfl) ?_)
  refine WL.step rfl (Stp.res rfl rfl (Res.len rfl rfl rfl rfl Tryd.underlying23) ?_)
  refine WL.step rfl (Stp.res rfl rfl (Res.lss rfl rfl rfl) ?_)
  refine WL.nil (Thn_n ?_)
  refine CW.iteF rfl (by omega) ?_
  refine CW.skip (Thn_n ?_)
  refine CW.seq ?_
  refine CW.seq ?_
  refine CW.region ?_
  refine WL.step rfl (Stp.res rfl rfl (Res.move rfl rfl) ?_)
  refine WL.step rfl (Stp.res rfl rfl (Res.len rfl rfl rfl rfl Tryd.underlying23) ?_)
  refine WL.step rfl (Stp.res rfl rfl (Res.gtr rfl rfl rfl) ?_)
  refine WL.nil (Thn_n ?_)
  refine CW.iteF rfl (by omega) ?_
  refine CW.skip (Thn_n ?_)
  refine CW.seq ?_
  refine CW.region ?_
  refine WL.step rfl (Stp.res rfl rfl (Res.move rfl rfl) ?_)
  refine WL.step rfl (Stp.res rfl rfl (Res.len rfl rfl rfl rfl Tryd.underlying23) ?_)
  refine WL.step rfl (Stp.res rfl rfl (Res.cast (Res.sub rfl rfl rfl (by omega)) (v' := .int .i64 (((b.length - 16) : Nat) : Int)) (by congr 1; omega)) ?_)
  refine WL.step rfl (Stp.res rfl rfl (Res.assign rfl rfl) ?_)
  refine WL.nil (Thn_n ?_)
  refine CW.seq ?_
  refine CW.region ?_
  refine WL.step rfl (Stp.res rfl rfl (Res.move rfl rfl) ?_)
  refine WL.step rfl (Stp.res rfl rfl (Res.move rfl rfl) ?_)
  refine WL.step rfl (Stp.res rfl rfl (Res.sliceHi (h := (b.length - 16)) rfl rfl rfl Tryd.underlying23 sz5 (by omega)) ?_)
  refine WL.step rfl (Stp.res rfl rfl (Res.assign rfl rfl) ?_)
  refine WL.nil (Thn_n ?_)
  refine CW.seq ?_
  refine CW.region ?_
  refine WL.step rfl (Stp.res rfl rfl (Res.move rfl rfl) ?_)
  refine WL.step rfl (Stp.res rfl rfl (Res.move rfl rfl) ?_)
  refine WL.step rfl (Stp.res rfl rfl (Res.move rfl rfl) ?_)
  refine WL.step rfl (Stp.callG (args := [_, _, _]) rfl rfl rfl cal22 rfl rfl hS (qtag_all _ _ key (b.take (b.length - 16)) use _ _ hS.on (hkey.mono hG1.1) ((hb0.mono hG1.1).take (by omega)) (by rw [List.length_take]; omega)) ?_)
  rintro _ w M2 hS hG2 ⟨tg, rfl, htg⟩
  rw [Seal.tagR, if_pos hg] at htg ⊢
  change Bs M2 tg (Seal.tag (Seal.ik key use) (b.take (b.length - 16))) at htg
  refine WL.step rfl (Stp.res rfl rfl (Res.move rfl rfl) ?_)
  refine WL.step rfl (Stp.res rfl rfl (Res.extract (l := [_, _]) rfl rfl rfl) ?_)
  refine WL.step rfl (Stp.res rfl rfl (Res.extract (l := [_, _]) rfl rfl rfl) ?_)
  refine WL.step rfl (Stp.res rfl rfl (Res.assign rfl rfl) ?_)
  refine WL.step rfl (Stp.res rfl rfl (Res.assign rfl rfl) ?_)
  refine WL.nil (Thn_n ?_)
  refine CW.seq ?_
  refine CW.seq ?_
  refine CW.region ?_
  refine WL.step rfl (Stp.res rfl rfl (Res.move rfl rfl) ?_)
  refine WL.step rfl (Stp.res rfl rfl (Res.move rfl rfl) ?_)
  refine WL.step rfl (Stp.res rfl rfl (Res.move rfl rfl) ?_)
  refine WL.step rfl (Stp.res rfl rfl (Res.sliceLo (l := (b.length - 16)) rfl rfl rfl Tryd.underlying23 sz5 (by omega)) ?_)
  refine WL.step rfl (Stp.callA (args := [_, _]) rfl rfl rfl cal14 rfl rfl (samebytes_t _ _ _ _ M2 _ hS.on htg ((hb0.mono (hG1.trans hG2).1).drop (k := (b.length - 16)) (by omega)) hq) ?_)
  have hcb := (hb0.mono (hG1.trans hG2).1).take (h := (b.length - 16)) (by omega)
  refine WL.step rfl (Stp.res rfl rfl (Res.not rfl rfl rfl) ?_)
  refine WL.nil (Thn_n ?_)
  refine CW.condF rfl ?_
  refine CW.skip (Thn_n ?_)
  refine CW.seq ?_
  refine CW.region ?_
  refine WL.step rfl (Stp.lit (vals := []) (cs := #[]) (e := 23) rfl rfl (fun _ => by kernel_rfl) rfl rfl hS ?_)
  intro b64 w hb64 hS hkp hnw
  refine WL.step rfl (Stp.res rfl rfl (Res.assign rfl rfl) ?_)
  refine WL.nil (Thn_n ?_)
  refine CW.seq ?_
  have hown := own_nil0 w0.heap.size b64 23 hb64
  refine CW.region ?_
  refine WL.step rfl (Stp.res rfl rfl (Res.move rfl rfl) ?_)
  refine WL.step rfl (Stp.res rfl rfl (Res.add rfl rfl rfl (by omega)) ?_)
  refine WL.step rfl (Stp.res rfl rfl (Res.cast (Res.quo rfl rfl rfl (by omega)) (v' := .int .i64 (((Seal.ceil (b.length - 16) / 16) : Nat) : Int)) (by congr 1; unfold Seal.ceil; omega)) ?_)
  refine WL.step rfl (Stp.res rfl rfl (Res.assign rfl rfl) ?_)
  refine WL.nil (Thn_n ?_)
  refine CW.seq ?_
  refine CW.seq ?_
  refine CW.region ?_
  refine WL.step rfl (Stp.res rfl rfl (Res.assign rfl rfl) ?_)
  refine WL.nil (Thn_n ?_)
  refine CW.block ?_
  refine CW.loop (σ := Nat × PH × Value × Owned × List Value) (fun s_ => [(8, s), (11, .int .i64 (((b.length - 16) : Nat) : Int)), (12, .slice va (b.length - 16) vc), (15, s_.2.2.1), (16, .int .i64 (((Seal.ceil (b.length - 16) / 16) : Nat) : Int)), (17, .int .i64 (s_.1 : Int))])
    (fun s_ w' => s_.1 ≤ (Seal.ceil (b.length - 16) / 16) ∧ Grow w0.heap.size M2 s_.2.1 ∧ St w0 w' s_.2.1 (s_.2.2.2.1 ++ []) ∧ Own w0.heap.size s_.2.2.2.1 s_.2.2.1 (min s_.1 ((Seal.ceil (b.length - 16) / 16) - 2)) 1 s_.2.2.2.2 23 ∧ Bl s_.2.1 s_.2.2.2.2 (Seal.fullB (Seal.ek key use) (b.take (b.length - 16)) (Seal.ceil (b.length - 16) / 16)) (min s_.1 ((Seal.ceil (b.length - 16) / 16) - 2))) (fun s_ => (Seal.ceil (b.length - 16) / 16) - s_.1) (0, M2, _, _, []) ⟨rfl, rfl, rfl, rfl, rfl, rfl, trivial⟩ ⟨by dsimp only; omega, Grow.refl _ _, hS, by dsimp only; rw [Nat.zero_min]; exact hown, by dsimp only; rw [Nat.zero_min]; exact Bl.nil _ _⟩ ?_
  rintro ⟨i, MJ, bv, g, xs⟩ w1 ⟨hi, hGJ, hS, hown, hbl⟩
  dsimp only at hi hGJ hS hown hbl ⊢
  rcases (by omega : i + 2 < (Seal.ceil (b.length - 16) / 16) ∨ ((Seal.ceil (b.length - 16) / 16) ≤ i + 2 ∧ i < (Seal.ceil (b.length - 16) / 16)) ∨ i = (Seal.ceil (b.length - 16) / 16)) with hcs | hcs | hcs
  · have hcn : (min i ((Seal.ceil (b.length - 16) / 16) - 2)) = i := by omega
    rw [hcn] at hown hbl
    refine CW.seq ?_
    refine CW.seq ?_
    refine CW.region ?_
    refine WL.step rfl (Stp.res rfl rfl (Res.move rfl rfl) ?_)
    refine WL.step rfl (Stp.res rfl rfl (Res.move rfl rfl) ?_)
    refine WL.step rfl (Stp.res rfl rfl (Res.lss rfl rfl rfl) ?_)
    refine WL.nil (Thn_n ?_)
    refine CW.iteT rfl (by omega) ?_
    refine CW.skip (Thn_n ?_)
    refine CW.seq ?_
    refine CW.block ?_
    refine CW.seq ?_
    refine CW.region ?_
    refine WL.step rfl (Stp.res rfl rfl (Res.move rfl rfl) ?_)
    refine WL.step rfl (Stp.res rfl rfl (Res.move rfl rfl) ?_)
    refine WL.step rfl (Stp.res rfl rfl (Res.sub rfl rfl rfl (by omega)) ?_)
    refine WL.step rfl (Stp.res rfl rfl (Res.to (Res.lss rfl rfl rfl) (by omega)) ?_)
    refine WL.step rfl (Stp.res rfl rfl (Res.move rfl rfl) ?_)
    refine WL.skipG 4 false rfl rfl rfl rfl rfl rfl ?_
    refine WL.skipG 4 false rfl rfl rfl rfl rfl rfl ?_
    refine WL.step rfl (Stp.res rfl rfl (Res.pickT rfl rfl rfl) ?_)
    refine WL.nil (Thn_n ?_)
    refine CW.condT rfl ?_
    refine CW.region ?_
    refine WL.step rfl (Stp.res rfl rfl (Res.move rfl rfl) ?_)
    refine WL.step rfl (Stp.res rfl rfl (Res.move rfl rfl) ?_)
    refine WL.step rfl (Stp.res rfl rfl (Res.move rfl rfl) ?_)
    refine WL.step rfl (Stp.res rfl rfl (Res.cast (Res.mul rfl rfl rfl (by omega)) (v' := .int .i64 ((16 * i : Nat) : Int)) (by congr 1)) ?_)
    refine WL.step rfl (Stp.res rfl rfl (Res.move rfl rfl) ?_)
    refine WL.step rfl (Stp.res rfl rfl (Res.cast (Res.mul rfl rfl rfl (by omega)) (v' := .int .i64 ((16 * i : Nat) : Int)) (by congr 1)) ?_)
    refine WL.step rfl (Stp.res rfl rfl (Res.cast (Res.add rfl rfl rfl (by omega)) (v' := .int .i64 ((16 * i + 16 : Nat) : Int)) (by congr 1)) ?_)
    refine WL.step rfl (Stp.res rfl rfl (Res.cast (Res.sliceLH (l := 16 * i) (h := 16 * i + 16) rfl rfl rfl rfl Tryd.underlying23 sz5 (by omega)) (v' := .slice (if vc = 16 * i then va else va.map (·.add (16 * i))) 16 (vc - (16 * i))) (by congr 1; omega)) ?_)
    refine WL.step rfl (Stp.lit (vals := [(0, .slice (if vc = 16 * i then va else va.map (·.add (16 * i))) 16 (vc - (16 * i)))]) (cs := #[.slice (if vc = 16 * i then va else va.map (·.add (16 * i))) 16 (vc - (16 * i))]) (e := 23) rfl rfl (fun _ => by kernel_rfl) rfl rfl hS ?_)
    intro b89 w hb89 hS hkp hnw
    have hF := hS.freezeG (i := 0) rfl hb89
    obtain ⟨M5, hG5, hlit, hS⟩ : ∃ M5, Grow w0.heap.size MJ M5 ∧ Vs M5 (.slice (some ⟨b89, 0, none⟩) 1 1) [.slice (if vc = 16 * i then va else va.map (·.add (16 * i))) 16 (vc - (16 * i))] ∧ St w0 w M5 (g ++ []) := ⟨_, hF.2, Vs.of (PH.add_self _ _ _) rfl rfl (by decide), hF.1⟩
    refine WL.step rfl (Stp.append (sz := 1) (m := 1) (k := i) (xs := xs) rfl rfl rfl rfl et70 (by decide) rfl (Src.ofVs Tryd.underlying70 hS hlit (by intro x hx; simp at hx; subst hx; rfl)) hS hown (by omega) (by omega) rfl rfl ?_)
    intro bv2 w g2 hS hown
    refine WL.step rfl (Stp.res rfl rfl (Res.assign rfl rfl) ?_)
    refine WL.nil (Blk_n (Thn_n ?_))
    refine CW.region ?_
    refine WL.step rfl (Stp.res rfl rfl (Res.move rfl rfl) ?_)
    refine WL.step rfl (Stp.res rfl rfl (Res.add rfl rfl rfl (by omega)) ?_)
    refine WL.step rfl (Stp.res rfl rfl (Res.assign rfl rfl) ?_)
    refine WL.nil (Thn_n ?_)
    have hyb : Bs M5 (.slice (if vc = 16 * i then va else va.map (·.add (16 * i))) 16 (vc - (16 * i))) ((Seal.fullB (Seal.ek key use) (b.take (b.length - 16)) (Seal.ceil (b.length - 16) / 16)) i) := by
      have h := (((hcb.mono hGJ.1).drop (k := 16 * i) (by omega)).take (h := 16) (by rw [List.length_drop]; omega)).mono hG5.1
      have e : (Seal.fullB (Seal.ek key use) (b.take (b.length - 16)) (Seal.ceil (b.length - 16) / 16)) i = Seal.blk (b.take (b.length - 16)) i := by rw [Seal.fullB]; rw [if_neg (by omega), if_neg (by omega), if_neg (by omega)]
      rw [e]
      exact h
    exact ⟨(i + 1, M5, bv2, g2, xs ++ [_]), ⟨rfl, rfl, rfl, rfl, rfl, rfl, trivial⟩, ⟨by dsimp only; omega, hGJ.trans hG5, hS, by dsimp only; rw [show min (i + 1) ((Seal.ceil (b.length - 16) / 16) - 2) = i + 1 by omega]; exact hown, by dsimp only; rw [show min (i + 1) ((Seal.ceil (b.length - 16) / 16) - 2) = i + 1 by omega]; exact (hbl.mono hG5.1).snoc hyb⟩, by dsimp only; omega⟩
  · have hcn : (min i ((Seal.ceil (b.length - 16) / 16) - 2)) = (Seal.ceil (b.length - 16) / 16) - 2 := by omega
    refine CW.seq ?_
    refine CW.seq ?_
    refine CW.region ?_
    refine WL.step rfl (Stp.res rfl rfl (Res.move rfl rfl) ?_)
    refine WL.step rfl (Stp.res rfl rfl (Res.move rfl rfl) ?_)
    refine WL.step rfl (Stp.res rfl rfl (Res.lss rfl rfl rfl) ?_)
    refine WL.nil (Thn_n ?_)
    refine CW.iteT rfl (by omega) ?_
    refine CW.skip (Thn_n ?_)
    refine CW.seq ?_
    refine CW.block ?_
    refine CW.seq ?_
    refine CW.region ?_
    refine WL.step rfl (Stp.res rfl rfl (Res.move rfl rfl) ?_)
    refine WL.step rfl (Stp.res rfl rfl (Res.move rfl rfl) ?_)
    refine WL.step rfl (Stp.res rfl rfl (Res.sub rfl rfl rfl (by omega)) ?_)
    refine WL.step rfl (Stp.res rfl rfl (Res.toF (Res.lss rfl rfl rfl) (by omega)) ?_)
    refine WL.step rfl (Stp.res rfl rfl (Res.move rfl rfl) ?_)
    refine WL.stepG 4 false rfl rfl rfl rfl (Stp.res rfl rfl (Res.move rfl rfl) ?_)
    refine WL.stepG 4 false rfl rfl rfl rfl (Stp.res rfl rfl (Res.toF (Res.eql rfl rfl rfl) (by omega)) ?_)
    refine WL.step rfl (Stp.res rfl rfl (Res.pickF rfl rfl rfl) ?_)
    refine WL.nil (Thn_n ?_)
    refine CW.condF rfl ?_
    refine CW.skip (Blk_n (Thn_n ?_))
    refine CW.region ?_
    refine WL.step rfl (Stp.res rfl rfl (Res.move rfl rfl) ?_)
    refine WL.step rfl (Stp.res rfl rfl (Res.add rfl rfl rfl (by omega)) ?_)
    refine WL.step rfl (Stp.res rfl rfl (Res.assign rfl rfl) ?_)
    refine WL.nil (Thn_n ?_)
    exact ⟨(i + 1, MJ, bv, g, xs), ⟨rfl, rfl, rfl, rfl, rfl, rfl, trivial⟩, ⟨by dsimp only; omega, hGJ, hS, by dsimp only; rw [show min (i + 1) ((Seal.ceil (b.length - 16) / 16) - 2) = min i ((Seal.ceil (b.length - 16) / 16) - 2) by omega]; exact hown, by dsimp only; rw [show min (i + 1) ((Seal.ceil (b.length - 16) / 16) - 2) = min i ((Seal.ceil (b.length - 16) / 16) - 2) by omega]; exact hbl⟩, by dsimp only; omega⟩
  · have hcn : (min i ((Seal.ceil (b.length - 16) / 16) - 2)) = (Seal.ceil (b.length - 16) / 16) - 2 := by omega
    rw [hcn] at hown hbl
    refine CW.seq ?_
    refine CW.seq ?_
    refine CW.region ?_
    refine WL.step rfl (Stp.res rfl rfl (Res.move rfl rfl) ?_)
    refine WL.step rfl (Stp.res rfl rfl (Res.move rfl rfl) ?_)
    refine WL.step rfl (Stp.res rfl rfl (Res.lss rfl rfl rfl) ?_)
    refine WL.nil (Thn_n ?_)
    refine CW.iteF rfl (by omega) ?_
    refine CW.exit (Thn_x (Thn_x (Blk_x (Thn_n ?_))))
    refine CW.seq ?_
    refine CW.seq ?_
    refine CW.region ?_
    refine WL.step rfl (Stp.res rfl rfl (Res.move rfl rfl) ?_)
    refine WL.step rfl (Stp.res rfl rfl (Res.gtr rfl rfl rfl) ?_)
    refine WL.nil (Thn_n ?_)
    refine CW.iteT rfl (by omega) ?_
    refine CW.seq ?_
    refine CW.region ?_
    refine WL.step rfl (Stp.res rfl rfl (Res.move rfl rfl) ?_)
    refine WL.step rfl (Stp.res rfl rfl (Res.sub rfl rfl rfl (by omega)) ?_)
    refine WL.step rfl (Stp.res rfl rfl (Res.cast (Res.mul rfl rfl rfl (by omega)) (v' := .int .i64 ((16 * ((Seal.ceil (b.length - 16) / 16) - 2) : Nat) : Int)) (by congr 1; omega)) ?_)
    refine WL.step rfl (Stp.res rfl rfl (Res.assign rfl rfl) ?_)
    refine WL.nil (Thn_n ?_)
    refine CW.seq ?_
    refine CW.region ?_
    refine WL.step rfl (Stp.res rfl rfl (Res.move rfl rfl) ?_)
    refine WL.step rfl (Stp.res rfl rfl (Res.move rfl rfl) ?_)
    refine WL.step rfl (Stp.res rfl rfl (Res.move rfl rfl) ?_)
    refine WL.step rfl (Stp.res rfl rfl (Res.cast (Res.add rfl rfl rfl (by omega)) (v' := .int .i64 ((16 * ((Seal.ceil (b.length - 16) / 16) - 2) + 16 : Nat) : Int)) (by congr 1)) ?_)
    refine WL.step rfl (Stp.res rfl rfl (Res.cast (Res.sliceLH (l := 16 * ((Seal.ceil (b.length - 16) / 16) - 2)) (h := 16 * ((Seal.ceil (b.length - 16) / 16) - 2) + 16) rfl rfl rfl rfl Tryd.underlying23 sz5 (by omega)) (v' := .slice (if vc = 16 * ((Seal.ceil (b.length - 16) / 16) - 2) then va else va.map (·.add (16 * ((Seal.ceil (b.length - 16) / 16) - 2)))) 16 (vc - (16 * ((Seal.ceil (b.length - 16) / 16) - 2)))) (by congr 1; omega)) ?_)
    refine WL.step rfl (Stp.res rfl rfl (Res.assign rfl rfl) ?_)
    refine WL.nil (Thn_n ?_)
    refine CW.seq ?_
    refine CW.region ?_
    refine WL.step rfl (Stp.res rfl rfl (Res.move rfl rfl) ?_)
    refine WL.step rfl (Stp.res rfl rfl (Res.move rfl rfl) ?_)
    refine WL.step rfl (Stp.res rfl rfl (Res.cast (Res.add rfl rfl rfl (by omega)) (v' := .int .i64 ((16 * ((Seal.ceil (b.length - 16) / 16) - 2) + 16 : Nat) : Int)) (by congr 1)) ?_)
    refine WL.step rfl (Stp.res rfl rfl (Res.sliceLo (l := 16 * ((Seal.ceil (b.length - 16) / 16) - 2) + 16) rfl rfl rfl Tryd.underlying23 sz5 (by omega)) ?_)
    refine WL.step rfl (Stp.res rfl rfl (Res.assign rfl rfl) ?_)
    refine WL.nil (Thn_n ?_)
    refine CW.seq ?_
    have hsec : Bs MJ (.slice (if vc = 16 * ((Seal.ceil (b.length - 16) / 16) - 2) then va else va.map (·.add (16 * ((Seal.ceil (b.length - 16) / 16) - 2)))) 16 (vc - (16 * ((Seal.ceil (b.length - 16) / 16) - 2)))) (Seal.blk (b.take (b.length - 16)) ((Seal.ceil (b.length - 16) / 16) - 2)) := by
      have h := ((hcb.mono hGJ.1).drop (k := 16 * ((Seal.ceil (b.length - 16) / 16) - 2)) (by omega)).take (h := 16) (by rw [List.length_drop]; omega)
      exact h
    have hshort0 := (hcb.mono hGJ.1).drop (k := 16 * ((Seal.ceil (b.length - 16) / 16) - 2) + 16) (by omega)
    refine CW.region ?_
    refine WL.step rfl (Stp.res rfl rfl (Res.move rfl rfl) ?_)
    refine WL.step rfl (Stp.res rfl rfl (Res.move rfl rfl) ?_)
    refine WL.step rfl (Stp.callG (args := [_, _]) rfl rfl rfl cal42 rfl rfl hS (rdecrypt_ok _ _ (Seal.ek key use) (Seal.blk (b.take (b.length - 16)) ((Seal.ceil (b.length - 16) / 16) - 2)) _ _ hS.on (hs.mono (hG2.trans hGJ).1) hsec (Seal.ek_length ..) (Seal.blk_length (by omega))) ?_)
    rintro _ w M4 hS hG4 ⟨xv, rfl, hxd⟩
    obtain ⟨xa, xc, rfl, x1, x2, x3, x4⟩ := id hxd
    refine WL.step rfl (Stp.res rfl rfl (Res.move rfl rfl) ?_)
    refine WL.step rfl (Stp.res rfl rfl (Res.extract (l := [_, _]) rfl rfl rfl) ?_)
    refine WL.step rfl (Stp.res rfl rfl (Res.extract (l := [_, _]) rfl rfl rfl) ?_)
    refine WL.step rfl (Stp.res rfl rfl (Res.assign rfl rfl) ?_)
    refine WL.step rfl (Stp.res rfl rfl (Res.assign rfl rfl) ?_)
    refine WL.nil (Thn_n ?_)
    refine CW.seq ?_
    have hshort := hshort0.mono hG4.1
    have hS := hS.drew
    have hK0 : True := trivial
    refine CW.held (fun _ => True) mixed ?_
    refine AL.take 1 rfl (by kernel_rfl) (by kernel_rfl) (by kernel_rfl) rfl rfl rfl hK0 (fun w hK => Res.move rfl rfl) ?_
    refine AL.take 3 rfl (by kernel_rfl) (by kernel_rfl) (by kernel_rfl) rfl rfl rfl hK0 (fun w hK => Res.move rfl rfl) ?_
    refine AL.take 4 rfl (by kernel_rfl) (by kernel_rfl) (by kernel_rfl) rfl rfl rfl hK0 (fun w hK => Res.move rfl rfl) ?_
    refine AL.take 5 rfl (by kernel_rfl) (by kernel_rfl) (by kernel_rfl) rfl rfl rfl hK0 (fun w hK => Res.len rfl rfl rfl rfl Tryd.underlying23) ?_
    refine AL.take 6 rfl (by kernel_rfl) (by kernel_rfl) (by kernel_rfl) rfl rfl rfl hK0 (fun w hK => Res.sliceLo (l := (b.length - 16) - (16 * ((Seal.ceil (b.length - 16) / 16) - 2) + 16)) rfl rfl rfl Tryd.underlying23 sz5 (by rw [Aes.dec_length]; omega)) ?_
    refine AL.one 0 rfl (by kernel_rfl) rfl (Stp.lit (vals := []) (cs := bs []) (e := 5) rfl rfl (fun _ => by kernel_rfl) rfl rfl hS ?_)
    intro b111 w hb111 hS hkp hnw
    have hK0 : True := trivial
    refine ⟨hK0, ?_⟩
    refine AL.one 2 rfl (by kernel_rfl) rfl (Stp.appendB (l := []) (r := (b.take (b.length - 16)).drop (16 * ((Seal.ceil (b.length - 16) / 16) - 2) + 16)) rfl rfl rfl rfl et23 (Src.ofBs Tryd.underlying23 hS hshort) hS (OwnB.of hb111 (Nat.le_refl 0) (by omega) [] rfl rfl) (by simp; omega) rfl rfl ?_)
    intro f1 w gf hS hownf
    have hK0 : True := trivial
    refine ⟨hK0, ?_⟩
    refine AL.one 7 rfl (by kernel_rfl) rfl (Stp.appendB (l := [] ++ (b.take (b.length - 16)).drop (16 * ((Seal.ceil (b.length - 16) / 16) - 2) + 16)) (r := (Aes.dec (Seal.ek key use) (Seal.blk (b.take (b.length - 16)) ((Seal.ceil (b.length - 16) / 16) - 2))).drop ((b.length - 16) - (16 * ((Seal.ceil (b.length - 16) / 16) - 2) + 16))) rfl rfl rfl rfl et23 (Src.ofBs Tryd.underlying23 hS (hxd.drop (by rw [Aes.dec_length]; omega))) hS hownf (by simp; omega) rfl rfl ?_)
    intro f2 w gf2 hS hownf
    obtain ⟨M5, hS, hle5, hfr5, hfirst⟩ := hownf.give hS
    have hG5 : Grow w0.heap.size M4 M5 := ⟨hle5, hfr5⟩
    have hfirst : Bs M5 f2 ((Seal.fullB (Seal.ek key use) (b.take (b.length - 16)) (Seal.ceil (b.length - 16) / 16)) ((Seal.ceil (b.length - 16) / 16) - 2)) := by
      rw [Seal.fullB, if_neg (by omega), if_pos rfl, show 16 * ((Seal.ceil (b.length - 16) / 16) - 1) = 16 * ((Seal.ceil (b.length - 16) / 16) - 2) + 16 by omega, List.length_drop, hbt]
      exact hfirst
    obtain ⟨fa, fc, rfl, f1, f2, f3, f4⟩ := id hfirst
    have hK0 : True := trivial
    refine ⟨hK0, ?_⟩
    refine AL.take 8 rfl (by kernel_rfl) (by kernel_rfl) (by kernel_rfl) rfl rfl rfl hK0 (fun w hK => Res.assign rfl rfl) ?_
    refine AL.done (by kernel_rfl) (Thn_n ?_)
    refine CW.region ?_
    refine WL.step rfl (Stp.res rfl rfl (Res.move rfl rfl) ?_)
    refine WL.step rfl (Stp.res rfl rfl (Res.move rfl rfl) ?_)
    refine WL.step rfl (Stp.res rfl rfl (Res.move rfl rfl) ?_)
    refine WL.step rfl (Stp.lit (vals := [(0, .slice fa ((Seal.fullB (Seal.ek key use) (b.take (b.length - 16)) (Seal.ceil (b.length - 16) / 16)) ((Seal.ceil (b.length - 16) / 16) - 2)).length fc), (1, .slice (if vc = 16 * ((Seal.ceil (b.length - 16) / 16) - 2) then va else va.map (·.add (16 * ((Seal.ceil (b.length - 16) / 16) - 2)))) 16 (vc - (16 * ((Seal.ceil (b.length - 16) / 16) - 2))))]) (cs := #[.slice fa ((Seal.fullB (Seal.ek key use) (b.take (b.length - 16)) (Seal.ceil (b.length - 16) / 16)) ((Seal.ceil (b.length - 16) / 16) - 2)).length fc, .slice (if vc = 16 * ((Seal.ceil (b.length - 16) / 16) - 2) then va else va.map (·.add (16 * ((Seal.ceil (b.length - 16) / 16) - 2)))) 16 (vc - (16 * ((Seal.ceil (b.length - 16) / 16) - 2)))]) (e := 23) rfl rfl (fun _ => by kernel_rfl) rfl rfl hS ?_)
    intro b122 w hb122 hS hkp hnw
    have hF := hS.freezeG (i := 0) rfl hb122
    obtain ⟨M6, hG6, hlit, hS⟩ : ∃ M6, Grow w0.heap.size M5 M6 ∧ Vs M6 (.slice (some ⟨b122, 0, none⟩) 2 2) [.slice fa ((Seal.fullB (Seal.ek key use) (b.take (b.length - 16)) (Seal.ceil (b.length - 16) / 16)) ((Seal.ceil (b.length - 16) / 16) - 2)).length fc, .slice (if vc = 16 * ((Seal.ceil (b.length - 16) / 16) - 2) then va else va.map (·.add (16 * ((Seal.ceil (b.length - 16) / 16) - 2)))) 16 (vc - (16 * ((Seal.ceil (b.length - 16) / 16) - 2)))] ∧ St w0 w M6 (g ++ []) := ⟨_, hF.2, Vs.of (PH.add_self _ _ _) rfl rfl (by decide), hF.1⟩
    refine WL.step rfl (Stp.append (sz := 1) (m := 2) (k := (Seal.ceil (b.length - 16) / 16) - 2) (xs := xs) rfl rfl rfl rfl et70 (by decide) rfl (Src.ofVs Tryd.underlying70 hS hlit (by intro x hx; simp at hx; rcases hx with rfl | rfl <;> rfl)) hS hown (by omega) (by omega) rfl rfl ?_)
    intro bv2 w g2 hS hown
    rw [show (Seal.ceil (b.length - 16) / 16) - 2 + 2 = (Seal.ceil (b.length - 16) / 16) by omega] at hown
    obtain ⟨xs2, hxs2⟩ : ∃ xs2, xs2 = xs ++ [.slice fa ((Seal.fullB (Seal.ek key use) (b.take (b.length - 16)) (Seal.ceil (b.length - 16) / 16)) ((Seal.ceil (b.length - 16) / 16) - 2)).length fc, .slice (if vc = 16 * ((Seal.ceil (b.length - 16) / 16) - 2) then va else va.map (·.add (16 * ((Seal.ceil (b.length - 16) / 16) - 2)))) 16 (vc - (16 * ((Seal.ceil (b.length - 16) / 16) - 2)))] := ⟨_, rfl⟩
    rw [← hxs2] at hown
    have hblk : Bl M6 xs2 (Seal.fullB (Seal.ek key use) (b.take (b.length - 16)) (Seal.ceil (b.length - 16) / 16)) (Seal.ceil (b.length - 16) / 16) := by
      have h1 := ((hbl.mono ((hG4.trans hG5).trans hG6).1).snoc (hfirst.mono hG6.1)).snoc (y := .slice (if vc = 16 * ((Seal.ceil (b.length - 16) / 16) - 2) then va else va.map (·.add (16 * ((Seal.ceil (b.length - 16) / 16) - 2)))) 16 (vc - (16 * ((Seal.ceil (b.length - 16) / 16) - 2)))) (by
        have e : (Seal.fullB (Seal.ek key use) (b.take (b.length - 16)) (Seal.ceil (b.length - 16) / 16)) ((Seal.ceil (b.length - 16) / 16) - 2 + 1) = Seal.blk (b.take (b.length - 16)) ((Seal.ceil (b.length - 16) / 16) - 2) := by rw [Seal.fullB, if_neg (by omega), if_neg (by omega), if_pos (by omega)]
        rw [e]
        exact hsec.mono ((hG4.trans hG5).trans hG6).1)
      rw [show (Seal.ceil (b.length - 16) / 16) - 2 + 1 + 1 = (Seal.ceil (b.length - 16) / 16) by omega, List.append_assoc] at h1
      rw [hxs2]
      exact h1
    refine WL.step rfl (Stp.res rfl rfl (Res.assign rfl rfl) ?_)
    refine WL.nil (Thn_n ?_)
    refine CW.seq ?_
    obtain ⟨MX, hS, hGX, hfull⟩ := Own.give hown hS
    obtain ⟨fb, fo, fcp, rfl, fl1, fl2, fcell⟩ := hfull.at (by rw [hblk.1]; omega)
    rw [hblk.1] at fl1
    rw [hblk.1]
    have hblk := hblk.mono hGX.1
    refine CW.region ?_
    refine WL.step rfl (Stp.lit (vals := []) (cs := bs []) (e := 5) rfl rfl (fun _ => by kernel_rfl) rfl rfl hS ?_)
    intro b124 w hb124 hS hkp hnw
    refine WL.step rfl (Stp.res rfl rfl (Res.assign rfl rfl) ?_)
    refine WL.nil (Thn_n ?_)
    refine CW.seq ?_
    refine CW.region ?_
    refine WL.step rfl (Stp.makeB (k := 16) (c := 16) rfl rfl rfl et23 ⟨Nat.le_refl 16, by decide⟩ rfl rfl hS ?_)
    intro b125 w hb125 hS hkp hnw
    refine WL.step rfl (Stp.res rfl rfl (Res.assign rfl rfl) ?_)
    refine WL.nil (Thn_n ?_)
    refine CW.seq ?_
    refine CW.seq ?_
    have hF := hS.freezeG (i := 0) rfl hb125
    obtain ⟨MC, hGC, hz, hS⟩ : ∃ MC, Grow w0.heap.size MX MC ∧ Bs MC (.slice (some ⟨b125, 0, none⟩) 16 16) (List.replicate 16 0) ∧ St w0 w MC ([(b124, .cells (bs []) 5 (0, 0))] ++ []) := ⟨_, hF.2, Bs.of' (PH.add_self _ _ _) (List.length_replicate ..) (by omega), hF.1⟩
    refine CW.region ?_
    refine WL.step rfl (Stp.res rfl rfl (Res.assign rfl rfl) ?_)
    refine WL.nil (Thn_n ?_)
    refine CW.block ?_
    refine CW.loop (σ := Nat × PH × Value × Value × Owned) (fun s_ => [(8, s), (11, .int .i64 (((b.length - 16) : Nat) : Int)), (15, .slice (some ⟨fb, fo, none⟩) (Seal.ceil (b.length - 16) / 16) fcp), (16, .int .i64 (((Seal.ceil (b.length - 16) / 16) : Nat) : Int)), (24, s_.2.2.2.1), (25, s_.2.2.1), (26, .int .i64 (s_.1 : Int))])
      (fun s_ w' => s_.1 ≤ (Seal.ceil (b.length - 16) / 16) ∧ Grow w0.heap.size MC s_.2.1 ∧ St w0 w' s_.2.1 (s_.2.2.2.2 ++ []) ∧ Bs s_.2.1 s_.2.2.1 (Seal.prev (Seal.whole (Seal.ek key use) (b.take (b.length - 16))) s_.1) ∧ OwnB w0.heap.size s_.2.2.2.2 s_.2.2.2.1 (Seal.uo (Seal.ek key use) (Seal.whole (Seal.ek key use) (b.take (b.length - 16))) s_.1) 5) (fun s_ => (Seal.ceil (b.length - 16) / 16) - s_.1) (0, MC, _, _, _) ⟨rfl, rfl, rfl, rfl, rfl, rfl, rfl, trivial⟩ ⟨by dsimp only; omega, Grow.refl _ _, hS, hz, OwnB.of hb124 (Nat.le_refl 0) (by omega) [] rfl rfl⟩ ?_
    rintro ⟨j, MJ2, lv, ov, g7⟩ w2 ⟨hj, hGJ2, hS, hlast, hown⟩
    dsimp only at hj hGJ2 hS hlast hown ⊢
    refine CW.seq ?_
    refine CW.seq ?_
    refine CW.region ?_
    refine WL.step rfl (Stp.res rfl rfl (Res.move rfl rfl) ?_)
    refine WL.step rfl (Stp.res rfl rfl (Res.move rfl rfl) ?_)
    refine WL.step rfl (Stp.res rfl rfl (Res.lss rfl rfl rfl) ?_)
    refine WL.nil (Thn_n ?_)
    refine CW.ite rfl (fun h => ?_) (fun h => ?_)
    · have hlt : j < (Seal.ceil (b.length - 16) / 16) := by omega
      obtain ⟨y, hy, hby⟩ := hblk.2 j hlt
      rw [Seal.fullB_whole (Seal.ek key use) (b.take (b.length - 16)) (by omega) (by rw [hbt]) hlt] at hby
      refine CW.skip (Thn_n ?_)
      refine CW.seq ?_
      refine CW.block ?_
      refine CW.seq ?_
      refine CW.region ?_
      refine WL.step rfl (Stp.res rfl rfl (Res.move rfl rfl) ?_)
      refine WL.step rfl (Stp.res rfl rfl (Res.move rfl rfl) ?_)
      refine WL.step rfl (Stp.res rfl rfl (Res.move rfl rfl) ?_)
      refine WL.step rfl (Stp.res rfl rfl (Res.idxS1 (k := j) rfl rfl rfl Tryd.underlying70 sz23 (Int.toNat_natCast _) (by omega)) ?_)
      refine WL.step rfl (Stp.res rfl rfl (Res.load1 (v := y) rfl rfl Tryd.underlying23 rfl (hS.cell (PH.cell_mono hGJ2.1 (PH.cell_mono hGC.1 (fcell j y hy))))) ?_)
      refine WL.step rfl (Stp.callG (args := [_, _]) rfl rfl rfl cal42 rfl rfl hS (rdecrypt_ok _ _ (Seal.ek key use) (Seal.blk (Seal.whole (Seal.ek key use) (b.take (b.length - 16))) j) _ _ hS.on (hs.mono (((((((hG2.trans hGJ).trans hG4).trans hG5).trans hG6).trans hGX).trans hGC).trans hGJ2).1) (hby.mono (hGC.trans hGJ2).1) (Seal.ek_length ..) (Seal.blk_length (by omega))) ?_)
      rintro _ w M7 hS hG7 ⟨xv, rfl, hxv⟩
      refine WL.step rfl (Stp.res rfl rfl (Res.move rfl rfl) ?_)
      refine WL.step rfl (Stp.res rfl rfl (Res.extract (l := [_, _]) rfl rfl rfl) ?_)
      refine WL.step rfl (Stp.res rfl rfl (Res.extract (l := [_, _]) rfl rfl rfl) ?_)
      refine WL.step rfl (Stp.res rfl rfl (Res.assign rfl rfl) ?_)
      refine WL.step rfl (Stp.res rfl rfl (Res.assign rfl rfl) ?_)
      refine WL.nil (Thn_n ?_)
      refine CW.seq ?_
      refine CW.region ?_
      refine WL.step rfl (Stp.res rfl rfl (Res.move rfl rfl) ?_)
      refine WL.step rfl (Stp.res rfl rfl (Res.move rfl rfl) ?_)
      refine WL.step rfl (Stp.res rfl rfl (Res.move rfl rfl) ?_)
      refine WL.step rfl (Stp.callG (args := [_, _]) rfl rfl rfl cal43 rfl rfl hS (qxor_ok _ _ (Aes.dec (Seal.ek key use) (Seal.blk (Seal.whole (Seal.ek key use) (b.take (b.length - 16))) j)) (Seal.prev (Seal.whole (Seal.ek key use) (b.take (b.length - 16))) j) _ _ hS.on hxv (hlast.mono hG7.1) (Aes.dec_length ..) (Seal.prev_length (by omega))) ?_)
      rintro yv w M8 hS hG8 hyv
      refine WL.step rfl (Stp.appendB (l := Seal.uo (Seal.ek key use) (Seal.whole (Seal.ek key use) (b.take (b.length - 16))) j) (r := Aes.xorB (Aes.dec (Seal.ek key use) (Seal.blk (Seal.whole (Seal.ek key use) (b.take (b.length - 16))) j)) (Seal.prev (Seal.whole (Seal.ek key use) (b.take (b.length - 16))) j)) rfl rfl rfl rfl et23 (Src.ofBs Tryd.underlying23 hS hyv) hS hown (by simp; omega) rfl rfl ?_)
      intro ov2 w g3 hS hown
      refine WL.step rfl (Stp.res rfl rfl (Res.assign rfl rfl) ?_)
      refine WL.nil (Thn_n ?_)
      refine CW.region ?_
      refine WL.step rfl (Stp.res rfl rfl (Res.move rfl rfl) ?_)
      refine WL.step rfl (Stp.res rfl rfl (Res.move rfl rfl) ?_)
      refine WL.step rfl (Stp.res rfl rfl (Res.idxS1 (k := j) rfl rfl rfl Tryd.underlying70 sz23 (Int.toNat_natCast _) (by omega)) ?_)
      refine WL.step rfl (Stp.res rfl rfl (Res.load1 (v := y) rfl rfl Tryd.underlying23 rfl (hS.cell (PH.cell_mono ((hGJ2.trans hG7).trans hG8).1 (PH.cell_mono hGC.1 (fcell j y hy))))) ?_)
      refine WL.step rfl (Stp.res rfl rfl (Res.assign rfl rfl) ?_)
      refine WL.nil (Blk_n (Thn_n ?_))
      refine CW.region ?_
      refine WL.step rfl (Stp.res rfl rfl (Res.move rfl rfl) ?_)
      refine WL.step rfl (Stp.res rfl rfl (Res.add rfl rfl rfl (by omega)) ?_)
      refine WL.step rfl (Stp.res rfl rfl (Res.assign rfl rfl) ?_)
      refine WL.nil (Thn_n ?_)
      exact ⟨(j + 1, M8, y, ov2, g3), ⟨rfl, rfl, rfl, rfl, rfl, rfl, rfl, trivial⟩, ⟨by dsimp only; omega, (hGJ2.trans hG7).trans hG8, hS, hby.mono (((hGC.trans hGJ2).trans hG7).trans hG8).1, hown⟩, by dsimp only; omega⟩
    · obtain rfl : j = (Seal.ceil (b.length - 16) / 16) := by omega
      have hul := Seal.uo_length (Seal.ek key use) (Seal.whole (Seal.ek key use) (b.take (b.length - 16))) (Seal.ceil (b.length - 16) / 16)
      obtain ⟨ob, rest, cp, hob, rfl, rfl, hc1, hc2⟩ := hown.gb (by omega)
      have hF := hS.freezeG (i := 0) rfl hob
      obtain ⟨M9, hG9, hM9, hS⟩ : ∃ M9, Grow w0.heap.size MJ2 M9 ∧ M9 ob = some (.cells (Gb (Seal.uo (Seal.ek key use) (Seal.whole (Seal.ek key use) (b.take (b.length - 16))) (Seal.ceil (b.length - 16) / 16)) rest) 5 (0, 0)) ∧ St w0 w2 M9 [] := ⟨_, hF.2, PH.add_self _ _ _, hF.1⟩
      have hres0 := (Bs.ofGb (k := (b.length - 16)) (cap := cp) hM9 (by omega) (by omega) hc2).drop (k := 16) (by rw [List.length_take]; omega)
      have hres : Bs M9 (.slice (if cp = 16 then some ⟨ob, 0, none⟩ else (some (⟨ob, 0, none⟩ : Addr)).map (·.add 16)) ((b.length - 16) - 16) (cp - 16)) (Seal.opened (Seal.ek key use) (b.take (b.length - 16))) := by
        rw [Seal.opened, hbt, hWl]
        exact hres0
      refine CW.exit (Thn_x (Thn_x (Blk_x (Thn_n ?_))))
      refine CW.seq ?_
      refine CW.region ?_
      refine WL.step rfl (Stp.lit (vals := []) (cs := bs []) (e := 5) rfl rfl (fun _ => by kernel_rfl) rfl rfl hS ?_)
      intro b149 w hb149 hS hkp hnw
      refine WL.step rfl (Stp.res rfl rfl (Res.move rfl rfl) ?_)
      refine WL.step rfl (Stp.res rfl rfl (Res.move rfl rfl) ?_)
      refine WL.step rfl (Stp.res rfl rfl (Res.sliceLH (l := 16) (h := (b.length - 16)) rfl rfl rfl rfl Tryd.underlying23 sz5 (by omega)) ?_)
      refine WL.step rfl (Stp.appendB (l := []) (r := Seal.opened (Seal.ek key use) (b.take (b.length - 16))) rfl rfl rfl rfl et23 (Src.ofBs Tryd.underlying23 hS hres) hS (OwnB.of hb149 (Nat.le_refl 0) (by omega) [] rfl rfl) (by have := hres.len_le; simp [Seal.opened]; omega) rfl rfl ?_)
      intro fv w g4 hS hown
      obtain ⟨M10, hS, hle10, hfr10, hfin⟩ := hown.give hS
      refine WL.step rfl (Stp.res rfl rfl (Res.assign rfl rfl) ?_)
      refine WL.step rfl (Stp.res rfl rfl (Res.assign rfl rfl) ?_)
      refine WL.nil (Thn_n ?_)
      refine CW.ret ?_
      have hlk : Seal.lookE key use b = 0 := by rw [Seal.lookE_mid hg hl.1 hl.2, if_pos hq]
      have hGA := (((((((((hG1.trans hG2).trans hGJ).trans hG4).trans hG5).trans hG6).trans hGX).trans hGC).trans hGJ2).trans hG9).trans ⟨hle10, hfr10⟩
      exact fq_tmp2 rfl rfl rfl ⟨M10, hS, hGA.1, hGA.2, _, by rw [Seal.openR, if_pos hlk], by rw [Seal.openR, if_pos hlk]; exact hfin⟩

theorem qopen_all (kv v : Value) (key b : List UInt8) (use : Int) (w0 : World) (M : PH) (hM : On M w0) (hkey : Bs M kv key) (hb : Bs M v b) : Ok Tryd.prog 20 #[kv, .int .i64 use, v] w0 M (fun M' r => ∃ s, r = .tuple #[s, .int .i64 (Seal.openR key use b).2] ∧ Bs M' s (Seal.openR key use b).1) := by
  by_cases hg : Seal.Good key use
  · by_cases h1 : b.length < 32
    · exact qopen_short kv v key b use w0 M hM hkey hb hg h1
    · by_cases h2 : 4128 < b.length
      · exact qopen_long kv v key b use w0 M hM hkey hb hg h2
      · by_cases h3 : Seal.tag (Seal.ik key use) (b.take (b.length - 16)) = b.drop (b.length - 16)
        · by_cases h4 : b.length = 32
          · exact qopen_one kv v key b use w0 M hM hkey hb hg ⟨by omega, by omega⟩ h3 h4
          · exact qopen_more kv v key b use w0 M hM hkey hb hg ⟨by omega, by omega⟩ h3 (by omega)
        · exact qopen_seal kv v key b use w0 M hM hkey hb hg ⟨by omega, by omega⟩ h3
  · exact qopen_bad kv v key b use w0 M hM hkey hb hg
end Go.Proofs.YtcmgimicdcchlaaDoor
