/- Own text of this seat (DL5): lemmas on the way to the statement; no condition of its own. -/
import Derived.Test.YtcmgimicdcchlaaDoorDL4
set_option linter.unusedVariables false
set_option maxRecDepth 20000
namespace Go.Proofs.YtcmgimicdcchlaaDoor
open Go Go.E
theorem law_tags_good (v : Value) (key l : List UInt8) (use at_ cut use2 : Int) (x : UInt8) (w0 : World) (M : PH) (hM : On M w0) (hgl : GL M) (hkl : key.length = 16) (hv : Bs M v l) (hq : 32 ≤ (Seal.turned (Seal.sealed (Seal.ek key ((Seal.amg use 256 : Nat) : Int)) (Seal.ik key ((Seal.amg use 256 : Nat) : Int)) key (l.take (min l.length 300))) (Seal.amg at_ (Seal.sealed (Seal.ek key ((Seal.amg use 256 : Nat) : Int)) (Seal.ik key ((Seal.amg use 256 : Nat) : Int)) key (l.take (min l.length 300))).length) x (Seal.amg cut 3)).length) (hz : Seal.tag (Seal.ik key ((Seal.amg use2 256 : Nat) : Int)) ((Seal.turned (Seal.sealed (Seal.ek key ((Seal.amg use 256 : Nat) : Int)) (Seal.ik key ((Seal.amg use 256 : Nat) : Int)) key (l.take (min l.length 300))) (Seal.amg at_ (Seal.sealed (Seal.ek key ((Seal.amg use 256 : Nat) : Int)) (Seal.ik key ((Seal.amg use 256 : Nat) : Int)) key (l.take (min l.length 300))).length) x (Seal.amg cut 3)).take ((Seal.turned (Seal.sealed (Seal.ek key ((Seal.amg use 256 : Nat) : Int)) (Seal.ik key ((Seal.amg use 256 : Nat) : Int)) key (l.take (min l.length 300))) (Seal.amg at_ (Seal.sealed (Seal.ek key ((Seal.amg use 256 : Nat) : Int)) (Seal.ik key ((Seal.amg use 256 : Nat) : Int)) key (l.take (min l.length 300))).length) x (Seal.amg cut 3)).length - 16)) = (Seal.turned (Seal.sealed (Seal.ek key ((Seal.amg use 256 : Nat) : Int)) (Seal.ik key ((Seal.amg use 256 : Nat) : Int)) key (l.take (min l.length 300))) (Seal.amg at_ (Seal.sealed (Seal.ek key ((Seal.amg use 256 : Nat) : Int)) (Seal.ik key ((Seal.amg use 256 : Nat) : Int)) key (l.take (min l.length 300))).length) x (Seal.amg cut 3)).drop ((Seal.turned (Seal.sealed (Seal.ek key ((Seal.amg use 256 : Nat) : Int)) (Seal.ik key ((Seal.amg use 256 : Nat) : Int)) key (l.take (min l.length 300))) (Seal.amg at_ (Seal.sealed (Seal.ek key ((Seal.amg use 256 : Nat) : Int)) (Seal.ik key ((Seal.amg use 256 : Nat) : Int)) key (l.take (min l.length 300))).length) x (Seal.amg cut 3)).length - 16)) : Ok Tryd.prog 7 #[.agg (bs key), .int .i64 use, v, .agg #[.int .i64 at_, .int .i64 cut, .int .i64 use2, byte x]] w0 M (fun M' r => M = M' ∧ r = .bool true) := by
  have hS := hM.st
  have hv0 := hv
  obtain ⟨va, vc, rfl, v1, v2, v3, v4⟩ := hv
  have ham := Seal.amg_lt use (n := 256) (by omega)
  have ham2 := Seal.amg_lt use2 (n := 256) (by omega)
  have hc3 := Seal.amg_lt cut (n := 3) (by omega)
  have htl : (l.take (min l.length 300)).length = min l.length 300 := by rw [List.length_take]; omega
  have hgd : Seal.Good key ((Seal.amg use 256 : Nat) : Int) := ⟨hkl, by omega, by omega⟩
  have hgd2 : Seal.Good key ((Seal.amg use2 256 : Nat) : Int) := ⟨hkl, by omega, by omega⟩
  have hBl := Seal.sealed_length (Seal.ek key ((Seal.amg use 256 : Nat) : Int)) (Seal.ik key ((Seal.amg use 256 : Nat) : Int)) key (l.take (min l.length 300)) hkl
  have hkk := Seal.amg_lt at_ (n := (Seal.sealed (Seal.ek key ((Seal.amg use 256 : Nat) : Int)) (Seal.ik key ((Seal.amg use 256 : Nat) : Int)) key (l.take (min l.length 300))).length) (by omega)
  have hTl := Seal.turned_length (Seal.sealed (Seal.ek key ((Seal.amg use 256 : Nat) : Int)) (Seal.ik key ((Seal.amg use 256 : Nat) : Int)) key (l.take (min l.length 300))) (Seal.amg at_ (Seal.sealed (Seal.ek key ((Seal.amg use 256 : Nat) : Int)) (Seal.ik key ((Seal.amg use 256 : Nat) : Int)) key (l.take (min l.length 300))).length) x (Seal.amg cut 3)
  have hlk : Seal.lookE key ((Seal.amg use2 256 : Nat) : Int) (Seal.turned (Seal.sealed (Seal.ek key ((Seal.amg use 256 : Nat) : Int)) (Seal.ik key ((Seal.amg use 256 : Nat) : Int)) key (l.take (min l.length 300))) (Seal.amg at_ (Seal.sealed (Seal.ek key ((Seal.amg use 256 : Nat) : Int)) (Seal.ik key ((Seal.amg use 256 : Nat) : Int)) key (l.take (min l.length 300))).length) x (Seal.amg cut 3)) = 0 := by rw [Seal.lookE_mid hgd2 hq (by rw [hTl]; omega), if_pos hz]
  refine enterB (l := [.agg (bs key), .int .i64 use, .slice va l.length vc, .agg #[.int .i64 at_, .int .i64 cut, .int .i64 use2, byte x]]) 117 Tryd.func7 rfl Tryd.ntmps7 rfl ?_
  refine CW.seq ?_
  refine CW.region ?_
  refine WL.step rfl (Stp.boxA rfl rfl rfl rfl hS ?_)
  intro b4 w hb4 hS hkp hnw
  refine WL.step rfl (Stp.boxA rfl rfl rfl rfl hS ?_)
  intro b7 w hb7 hS hkp hnw
  refine WL.step rfl (Stp.res rfl rfl (Res.assign rfl rfl) ?_)
  refine WL.nil (Thn_n ?_)
  refine CW.seq ?_
  refine CW.seq ?_
  obtain ⟨M1, hG1, hk, hbox, hS⟩ : ∃ M1, Grow w0.heap.size M M1 ∧ Bs M1 (.slice (some ⟨b4, 0, none⟩) 16 16) key ∧ M1 b7 = some (.cells #[.int .i64 at_, .int .i64 cut, .int .i64 use2, byte x] 39 (0, 0)) ∧ St w0 w M1 [] := by
    have hF := hS.freezeG (i := 0) rfl hb7
    have hF2 := hF.1.freezeG (i := 0) rfl hb4
    exact ⟨_, hF.2.trans hF2.2, Bs.of' (PH.add_self _ _ _) hkl (by omega), hF2.2.1 _ _ (PH.add_self _ _ _), hF2.1⟩
  refine CW.region ?_
  refine WL.step rfl (Stp.callG (args := []) rfl rfl rfl cal10 rfl rfl hS (works_ok _ _ hS.on (hgl.mono hG1.1)) ?_)
  rintro _ w MW hS hGW rfl
  refine WL.step rfl (Stp.res rfl rfl (Res.not rfl rfl rfl) ?_)
  refine WL.nil (Thn_n ?_)
  refine CW.condF rfl ?_
  refine CW.skip (Thn_n ?_)
  refine CW.seq ?_
  refine CW.region ?_
  refine WL.step rfl (Stp.res rfl rfl (Res.move rfl rfl) ?_)
  refine WL.step rfl (Stp.res rfl rfl (Res.move rfl rfl) ?_)
  refine WL.step rfl (Stp.res rfl rfl (Res.len rfl rfl rfl rfl Tryd.underlying23) ?_)
  refine WL.step rfl (Stp.res rfl rfl (Res.minN rfl rfl rfl) ?_)
  refine WL.step rfl (Stp.res rfl rfl (Res.sliceHi (h := min l.length 300) rfl rfl rfl Tryd.underlying23 sz5 (by omega)) ?_)
  refine WL.step rfl (Stp.res rfl rfl (Res.assign rfl rfl) ?_)
  refine WL.nil (Thn_n ?_)
  refine CW.seq ?_
  have hS := hS.drew
  refine CW.still mixed (by kernel_rfl) ?_
  refine SL.step rfl rfl rfl (Res.fieldA rfl rfl Tryd.underlying39 rfl (show SZ Tryd.prog _ 1 from sz3) (by decide)) ?_
  refine SL.step rfl rfl rfl (Res.load1 (v := .int .i64 at_) rfl rfl Tryd.underlying3 rfl (hS.cell (PH.cell_of (hGW.1 _ _ hbox) rfl))) ?_
  refine SL.step rfl rfl rfl (Res.fieldA rfl rfl Tryd.underlying39 rfl (show SZ Tryd.prog _ 1 from sz5) (by decide)) ?_
  refine SL.step rfl rfl rfl (Res.load1 (v := byte x) rfl rfl Tryd.underlying5 rfl (hS.cell (PH.cell_of (hGW.1 _ _ hbox) rfl))) ?_
  refine SL.step rfl rfl rfl (Res.fieldA rfl rfl Tryd.underlying39 rfl (show SZ Tryd.prog _ 1 from sz3) (by decide)) ?_
  refine SL.step rfl rfl rfl (Res.load1 (v := .int .i64 cut) rfl rfl Tryd.underlying3 rfl (hS.cell (PH.cell_of (hGW.1 _ _ hbox) rfl))) ?_
  refine SL.step rfl rfl rfl (Res.assign rfl rfl) ?_
  refine SL.step rfl rfl rfl (Res.assign rfl rfl) ?_
  refine SL.step rfl rfl rfl (Res.assign rfl rfl) ?_
  refine SL.nil (Thn_n ?_)
  refine CW.seq ?_
  have hS := hS.drew
  have hK0 := hS.on
  refine CW.held (fun w => On MW w) mixed ?_
  refine AL.take 0 rfl (by kernel_rfl) (by kernel_rfl) (by kernel_rfl) rfl rfl rfl hK0 (fun w hK => Res.move rfl rfl) ?_
  refine AL.take 2 rfl (by kernel_rfl) (by kernel_rfl) (by kernel_rfl) rfl rfl rfl hK0 (fun w hK => Res.fieldA rfl rfl Tryd.underlying39 rfl (show SZ Tryd.prog _ 1 from sz3) (by decide)) ?_
  refine AL.take 3 rfl (by kernel_rfl) (by kernel_rfl) (by kernel_rfl) rfl rfl rfl hK0 (fun w hK => Res.load1 (v := .int .i64 use2) rfl rfl Tryd.underlying3 rfl (w := w) (by have := hK _ _ (hGW.1 _ _ hbox); simp [World.cell?, this])) ?_
  refine AL.one 1 rfl (by kernel_rfl) rfl (Stp.callA (args := [_, _]) rfl rfl rfl cal11 rfl rfl (among_ok _ 256 (by omega) _) ?_)
  skip
  refine ⟨hK0, ?_⟩
  refine AL.one 4 rfl (by kernel_rfl) rfl (Stp.callA (args := [_, _]) rfl rfl rfl cal11 rfl rfl (among_ok _ 256 (by omega) _) ?_)
  skip
  refine ⟨hK0, ?_⟩
  refine AL.take 5 rfl (by kernel_rfl) (by kernel_rfl) (by kernel_rfl) rfl rfl rfl hK0 (fun w hK => Res.assign rfl rfl) ?_
  refine AL.take 6 rfl (by kernel_rfl) (by kernel_rfl) (by kernel_rfl) rfl rfl rfl hK0 (fun w hK => Res.assign rfl rfl) ?_
  refine AL.done (by kernel_rfl) (Thn_n ?_)
  refine CW.seq ?_
  have hS := hS.drew
  have hK0 : True := trivial
  refine CW.held (fun _ => True) mixed ?_
  refine AL.take 0 rfl (by kernel_rfl) (by kernel_rfl) (by kernel_rfl) rfl rfl rfl hK0 (fun w hK => Res.sliceA rfl rfl Tryd.underlying22 (by decide) sz5) ?_
  refine AL.take 1 rfl (by kernel_rfl) (by kernel_rfl) (by kernel_rfl) rfl rfl rfl hK0 (fun w hK => Res.move rfl rfl) ?_
  refine AL.take 2 rfl (by kernel_rfl) (by kernel_rfl) (by kernel_rfl) rfl rfl rfl hK0 (fun w hK => Res.sliceA rfl rfl Tryd.underlying22 (by decide) sz5) ?_
  refine AL.take 3 rfl (by kernel_rfl) (by kernel_rfl) (by kernel_rfl) rfl rfl rfl hK0 (fun w hK => Res.move rfl rfl) ?_
  refine AL.one 4 rfl (by kernel_rfl) rfl (Stp.callG (args := [_, _, _, _]) rfl rfl rfl cal12 rfl rfl hS (seal_all _ _ _ key key (l.take (min l.length 300)) ((Seal.amg use 256 : Nat) : Int) _ _ hS.on (hgl.mono (hG1.trans hGW).1) (hk.mono hGW.1) (hk.mono hGW.1) ((hv0.mono (hG1.trans hGW).1).take (by omega))) ?_)
  rintro _ w M3 hS hG3 ⟨sv, rfl, hsv⟩
  rw [Seal.sealR_ok hgd hkl (by omega)] at hsv ⊢
  change Bs M3 sv (Seal.sealed (Seal.ek key ((Seal.amg use 256 : Nat) : Int)) (Seal.ik key ((Seal.amg use 256 : Nat) : Int)) key (l.take (min l.length 300))) at hsv
  have hK0 : True := trivial
  refine ⟨hK0, ?_⟩
  refine AL.take 5 rfl (by kernel_rfl) (by kernel_rfl) (by kernel_rfl) rfl rfl rfl hK0 (fun w hK => Res.move rfl rfl) ?_
  refine AL.take 6 rfl (by kernel_rfl) (by kernel_rfl) (by kernel_rfl) rfl rfl rfl hK0 (fun w hK => Res.extract (l := [_, _]) rfl rfl rfl) ?_
  refine AL.take 7 rfl (by kernel_rfl) (by kernel_rfl) (by kernel_rfl) rfl rfl rfl hK0 (fun w hK => Res.extract (l := [_, _]) rfl rfl rfl) ?_
  refine AL.take 8 rfl (by kernel_rfl) (by kernel_rfl) (by kernel_rfl) rfl rfl rfl hK0 (fun w hK => Res.assign rfl rfl) ?_
  refine AL.take 9 rfl (by kernel_rfl) (by kernel_rfl) (by kernel_rfl) rfl rfl rfl hK0 (fun w hK => Res.assign rfl rfl) ?_
  refine AL.done (by kernel_rfl) (Thn_n ?_)
  refine CW.seq ?_
  refine CW.seq ?_
  obtain ⟨qa, qc, rfl, q1, q2, q3, q4⟩ := id hsv
  refine CW.region ?_
  refine WL.step rfl (Stp.res rfl rfl (Res.move rfl rfl) ?_)
  refine WL.step rfl (Stp.res rfl rfl (Res.len rfl rfl rfl rfl Tryd.underlying23) ?_)
  refine WL.step rfl (Stp.res rfl rfl (Res.lss rfl rfl rfl) ?_)
  refine WL.nil (Thn_n ?_)
  refine CW.iteF rfl (by omega) ?_
  refine CW.skip (Thn_n ?_)
  refine CW.seq ?_
  refine CW.region ?_
  refine WL.step rfl (Stp.res rfl rfl (Res.move rfl rfl) ?_)
  refine WL.step rfl (Stp.res rfl rfl (Res.move rfl rfl) ?_)
  refine WL.step rfl (Stp.res rfl rfl (Res.len rfl rfl rfl rfl Tryd.underlying23) ?_)
  refine WL.step rfl (Stp.callA (args := [_, _]) rfl rfl rfl cal11 rfl rfl (among_ok _ (Seal.sealed (Seal.ek key ((Seal.amg use 256 : Nat) : Int)) (Seal.ik key ((Seal.amg use 256 : Nat) : Int)) key (l.take (min l.length 300))).length (by omega) _) ?_)
  refine WL.step rfl (Stp.res rfl rfl (Res.assign rfl rfl) ?_)
  refine WL.nil (Thn_n ?_)
  refine CW.seq ?_
  have hsz10 := hS.size
  refine CW.region ?_
  refine WL.step rfl (Stp.res rfl rfl (Res.move rfl rfl) ?_)
  refine WL.step rfl (Stp.callG (args := [_]) rfl rfl rfl cal16 rfl rfl hS (bytes_own _ (Seal.sealed (Seal.ek key ((Seal.amg use 256 : Nat) : Int)) (Seal.ik key ((Seal.amg use 256 : Nat) : Int)) key (l.take (min l.length 300))) _ _ hS.on hsv (by omega) (by omega)) ?_)
  rintro _ w M4 hS hG4 ⟨bt, rest, cp, hmb, hbt, hM4, hc1, hc2, rfl⟩
  have hS := hS.take hM4 hG4.1 hmb
  have hbt := Nat.le_trans hsz10 hbt
  refine WL.step rfl (Stp.res rfl rfl (Res.assign rfl rfl) ?_)
  refine WL.nil (Thn_n ?_)
  refine CW.seq ?_
  refine CW.region ?_
  refine WL.step rfl (Stp.res rfl rfl (Res.move rfl rfl) ?_)
  refine WL.step rfl (Stp.res rfl rfl (Res.move rfl rfl) ?_)
  refine WL.step rfl (Stp.res rfl rfl (Res.move rfl rfl) ?_)
  refine WL.step rfl (Stp.res rfl rfl (Res.move rfl rfl) ?_)
  refine WL.step rfl (Stp.res rfl rfl (Res.idxS0 (k := (Seal.amg at_ (Seal.sealed (Seal.ek key ((Seal.amg use 256 : Nat) : Int)) (Seal.ik key ((Seal.amg use 256 : Nat) : Int)) key (l.take (min l.length 300))).length)) rfl rfl rfl Tryd.underlying23 sz5 (Int.toNat_natCast _) (by omega)) ?_)
  refine WL.step rfl (Stp.res rfl rfl (Res.load1 (v := byte ((Seal.sealed (Seal.ek key ((Seal.amg use 256 : Nat) : Int)) (Seal.ik key ((Seal.amg use 256 : Nat) : Int)) key (l.take (min l.length 300))).getD (Seal.amg at_ (Seal.sealed (Seal.ek key ((Seal.amg use 256 : Nat) : Int)) (Seal.ik key ((Seal.amg use 256 : Nat) : Int)) key (l.take (min l.length 300))).length) 0)) rfl rfl Tryd.underlying5 rfl (hS.ocell (i := 0) rfl (Gb_get (by omega)))) ?_)
  refine WL.step rfl (Stp.res rfl rfl (Res.move rfl rfl) ?_)
  refine WL.step rfl (Stp.res rfl rfl (Res.xorB _ rfl rfl rfl) ?_)
  refine WL.step rfl (Stp.res rfl rfl (Res.idxS0 (k := (Seal.amg at_ (Seal.sealed (Seal.ek key ((Seal.amg use 256 : Nat) : Int)) (Seal.ik key ((Seal.amg use 256 : Nat) : Int)) key (l.take (min l.length 300))).length)) rfl rfl rfl Tryd.underlying23 sz5 (Int.toNat_natCast _) (by omega)) ?_)
  refine WL.step rfl (Stp.store1 0 (v := byte ((Seal.sealed (Seal.ek key ((Seal.amg use 256 : Nat) : Int)) (Seal.ik key ((Seal.amg use 256 : Nat) : Int)) key (l.take (min l.length 300))).getD (Seal.amg at_ (Seal.sealed (Seal.ek key ((Seal.amg use 256 : Nat) : Int)) (Seal.ik key ((Seal.amg use 256 : Nat) : Int)) key (l.take (min l.length 300))).length) 0 ^^^ x)) rfl rfl rfl sz5 rfl rfl hS rfl (by simp; omega) ?_)
  intro w hS hpt
  change St w0 w M3 [(bt, .cells ((Gb (Seal.sealed (Seal.ek key ((Seal.amg use 256 : Nat) : Int)) (Seal.ik key ((Seal.amg use 256 : Nat) : Int)) key (l.take (min l.length 300))) rest).setIfInBounds (Seal.amg at_ (Seal.sealed (Seal.ek key ((Seal.amg use 256 : Nat) : Int)) (Seal.ik key ((Seal.amg use 256 : Nat) : Int)) key (l.take (min l.length 300))).length) (byte ((Seal.sealed (Seal.ek key ((Seal.amg use 256 : Nat) : Int)) (Seal.ik key ((Seal.amg use 256 : Nat) : Int)) key (l.take (min l.length 300))).getD (Seal.amg at_ (Seal.sealed (Seal.ek key ((Seal.amg use 256 : Nat) : Int)) (Seal.ik key ((Seal.amg use 256 : Nat) : Int)) key (l.take (min l.length 300))).length) 0 ^^^ x))) 5 (0, 0))] at hS
  rw [Gb_set (by omega)] at hS
  refine WL.nil (Thn_n ?_)
  refine CW.seq ?_
  have hF := hS.freezeG (i := 0) rfl hbt
  obtain ⟨M5, hG5, hM5, hS⟩ : ∃ M5, Grow w0.heap.size M3 M5 ∧ M5 bt = some (.cells (Gb ((Seal.sealed (Seal.ek key ((Seal.amg use 256 : Nat) : Int)) (Seal.ik key ((Seal.amg use 256 : Nat) : Int)) key (l.take (min l.length 300))).set (Seal.amg at_ (Seal.sealed (Seal.ek key ((Seal.amg use 256 : Nat) : Int)) (Seal.ik key ((Seal.amg use 256 : Nat) : Int)) key (l.take (min l.length 300))).length) ((Seal.sealed (Seal.ek key ((Seal.amg use 256 : Nat) : Int)) (Seal.ik key ((Seal.amg use 256 : Nat) : Int)) key (l.take (min l.length 300))).getD (Seal.amg at_ (Seal.sealed (Seal.ek key ((Seal.amg use 256 : Nat) : Int)) (Seal.ik key ((Seal.amg use 256 : Nat) : Int)) key (l.take (min l.length 300))).length) 0 ^^^ x)) rest) 5 (0, 0)) ∧ St w0 w M5 [] := ⟨_, hF.2, PH.add_self _ _ _, hF.1⟩
  have hT : Bs M5 (.slice (some ⟨bt, 0, none⟩) ((Seal.sealed (Seal.ek key ((Seal.amg use 256 : Nat) : Int)) (Seal.ik key ((Seal.amg use 256 : Nat) : Int)) key (l.take (min l.length 300))).length - (Seal.amg cut 3)) cp) (Seal.turned (Seal.sealed (Seal.ek key ((Seal.amg use 256 : Nat) : Int)) (Seal.ik key ((Seal.amg use 256 : Nat) : Int)) key (l.take (min l.length 300))) (Seal.amg at_ (Seal.sealed (Seal.ek key ((Seal.amg use 256 : Nat) : Int)) (Seal.ik key ((Seal.amg use 256 : Nat) : Int)) key (l.take (min l.length 300))).length) x (Seal.amg cut 3)) := Bs.ofGb hM5 (by rw [List.length_set]; omega) (by omega) hc2
  refine CW.region ?_
  refine WL.step rfl (Stp.res rfl rfl (Res.move rfl rfl) ?_)
  refine WL.step rfl (Stp.res rfl rfl (Res.move rfl rfl) ?_)
  refine WL.step rfl (Stp.res rfl rfl (Res.len rfl rfl rfl rfl Tryd.underlying23) ?_)
  refine WL.step rfl (Stp.res rfl rfl (Res.move rfl rfl) ?_)
  refine WL.step rfl (Stp.callA (args := [_, _]) rfl rfl rfl cal11 rfl rfl (among_ok _ 3 (by omega) _) ?_)
  refine WL.step rfl (Stp.res rfl rfl (Res.cast (Res.sub rfl rfl rfl (by omega)) (v' := .int .i64 (((Seal.sealed (Seal.ek key ((Seal.amg use 256 : Nat) : Int)) (Seal.ik key ((Seal.amg use 256 : Nat) : Int)) key (l.take (min l.length 300))).length - (Seal.amg cut 3) : Nat) : Int)) (by congr 1; omega)) ?_)
  refine WL.step rfl (Stp.res rfl rfl (Res.sliceHi (h := (Seal.sealed (Seal.ek key ((Seal.amg use 256 : Nat) : Int)) (Seal.ik key ((Seal.amg use 256 : Nat) : Int)) key (l.take (min l.length 300))).length - (Seal.amg cut 3)) rfl rfl rfl Tryd.underlying23 sz5 (by omega)) ?_)
  refine WL.step rfl (Stp.res rfl rfl (Res.assign rfl rfl) ?_)
  refine WL.nil (Thn_n ?_)
  refine CW.seq ?_
  refine CW.region ?_
  refine WL.step rfl (Stp.res rfl rfl (Res.sliceA rfl rfl Tryd.underlying22 (by decide) sz5) ?_)
  refine WL.step rfl (Stp.res rfl rfl (Res.move rfl rfl) ?_)
  refine WL.step rfl (Stp.res rfl rfl (Res.move rfl rfl) ?_)
  refine WL.step rfl (Stp.callG (args := [_, _, _]) rfl rfl rfl cal13 rfl rfl hS (open_all _ _ key (Seal.turned (Seal.sealed (Seal.ek key ((Seal.amg use 256 : Nat) : Int)) (Seal.ik key ((Seal.amg use 256 : Nat) : Int)) key (l.take (min l.length 300))) (Seal.amg at_ (Seal.sealed (Seal.ek key ((Seal.amg use 256 : Nat) : Int)) (Seal.ik key ((Seal.amg use 256 : Nat) : Int)) key (l.take (min l.length 300))).length) x (Seal.amg cut 3)) ((Seal.amg use2 256 : Nat) : Int) _ _ hS.on (hgl.mono (((hG1.trans hGW).trans hG3).trans hG5).1) (hk.mono ((hGW.trans hG3).trans hG5).1) hT) ?_)
  rintro _ w M6 hS hG6 ⟨ow, rfl, hov⟩
  rw [Seal.openR_two, hlk]
  refine WL.step rfl (Stp.res rfl rfl (Res.move rfl rfl) ?_)
  refine WL.step rfl (Stp.res rfl rfl (Res.extract (l := [_, _]) rfl rfl rfl) ?_)
  refine WL.step rfl (Stp.res rfl rfl (Res.extract (l := [_, _]) rfl rfl rfl) ?_)
  refine WL.step rfl (Stp.res rfl rfl (Res.assign rfl rfl) ?_)
  refine WL.step rfl (Stp.res rfl rfl (Res.assign rfl rfl) ?_)
  refine WL.nil (Thn_n ?_)
  refine CW.seq ?_
  refine CW.seq ?_
  refine CW.region ?_
  refine WL.step rfl (Stp.res rfl rfl (Res.move rfl rfl) ?_)
  refine WL.step rfl (Stp.res rfl rfl (Res.len rfl rfl rfl rfl Tryd.underlying23) ?_)
  refine WL.step rfl (Stp.res rfl rfl (Res.lss rfl rfl rfl) ?_)
  refine WL.nil (Thn_n ?_)
  refine CW.iteF rfl (by omega) ?_
  refine CW.skip (Thn_n ?_)
  refine CW.seq ?_
  have hS := hS.drew
  have hK0 : True := trivial
  refine CW.held (fun _ => True) mixed ?_
  refine AL.take 0 rfl (by kernel_rfl) (by kernel_rfl) (by kernel_rfl) rfl rfl rfl hK0 (fun w hK => Res.sliceA rfl rfl Tryd.underlying22 (by decide) sz5) ?_
  refine AL.take 1 rfl (by kernel_rfl) (by kernel_rfl) (by kernel_rfl) rfl rfl rfl hK0 (fun w hK => Res.move rfl rfl) ?_
  refine AL.take 2 rfl (by kernel_rfl) (by kernel_rfl) (by kernel_rfl) rfl rfl rfl hK0 (fun w hK => Res.move rfl rfl) ?_
  refine AL.take 3 rfl (by kernel_rfl) (by kernel_rfl) (by kernel_rfl) rfl rfl rfl hK0 (fun w hK => Res.move rfl rfl) ?_
  refine AL.take 4 rfl (by kernel_rfl) (by kernel_rfl) (by kernel_rfl) rfl rfl rfl hK0 (fun w hK => Res.len rfl rfl rfl rfl Tryd.underlying23) ?_
  refine AL.take 5 rfl (by kernel_rfl) (by kernel_rfl) (by kernel_rfl) rfl rfl rfl hK0 (fun w hK => Res.cast (Res.sub rfl rfl rfl (by omega)) (v' := .int .i64 (((Seal.turned (Seal.sealed (Seal.ek key ((Seal.amg use 256 : Nat) : Int)) (Seal.ik key ((Seal.amg use 256 : Nat) : Int)) key (l.take (min l.length 300))) (Seal.amg at_ (Seal.sealed (Seal.ek key ((Seal.amg use 256 : Nat) : Int)) (Seal.ik key ((Seal.amg use 256 : Nat) : Int)) key (l.take (min l.length 300))).length) x (Seal.amg cut 3)).length - 16 : Nat) : Int)) (by congr 1; omega)) ?_
  refine AL.take 6 rfl (by kernel_rfl) (by kernel_rfl) (by kernel_rfl) rfl rfl rfl hK0 (fun w hK => Res.sliceHi (h := (Seal.turned (Seal.sealed (Seal.ek key ((Seal.amg use 256 : Nat) : Int)) (Seal.ik key ((Seal.amg use 256 : Nat) : Int)) key (l.take (min l.length 300))) (Seal.amg at_ (Seal.sealed (Seal.ek key ((Seal.amg use 256 : Nat) : Int)) (Seal.ik key ((Seal.amg use 256 : Nat) : Int)) key (l.take (min l.length 300))).length) x (Seal.amg cut 3)).length - 16) rfl rfl rfl Tryd.underlying23 sz5 (by omega)) ?_
  refine AL.one 7 rfl (by kernel_rfl) rfl (Stp.callG (args := [_, _, _]) rfl rfl rfl cal21 rfl rfl hS (tag_all _ _ key ((Seal.turned (Seal.sealed (Seal.ek key ((Seal.amg use 256 : Nat) : Int)) (Seal.ik key ((Seal.amg use 256 : Nat) : Int)) key (l.take (min l.length 300))) (Seal.amg at_ (Seal.sealed (Seal.ek key ((Seal.amg use 256 : Nat) : Int)) (Seal.ik key ((Seal.amg use 256 : Nat) : Int)) key (l.take (min l.length 300))).length) x (Seal.amg cut 3)).take ((Seal.turned (Seal.sealed (Seal.ek key ((Seal.amg use 256 : Nat) : Int)) (Seal.ik key ((Seal.amg use 256 : Nat) : Int)) key (l.take (min l.length 300))) (Seal.amg at_ (Seal.sealed (Seal.ek key ((Seal.amg use 256 : Nat) : Int)) (Seal.ik key ((Seal.amg use 256 : Nat) : Int)) key (l.take (min l.length 300))).length) x (Seal.amg cut 3)).length - 16)) ((Seal.amg use2 256 : Nat) : Int) _ _ hS.on (hgl.mono ((((hG1.trans hGW).trans hG3).trans hG5).trans hG6).1) (hk.mono (((hGW.trans hG3).trans hG5).trans hG6).1) ((hT.mono hG6.1).take (by omega)) (by rw [List.length_take]; omega)) ?_)
  rintro _ w M7 hS hG7 ⟨tg, rfl, htg⟩
  rw [Seal.tagR, if_pos hgd2] at htg ⊢
  change Bs M7 tg (Seal.tag (Seal.ik key ((Seal.amg use2 256 : Nat) : Int)) ((Seal.turned (Seal.sealed (Seal.ek key ((Seal.amg use 256 : Nat) : Int)) (Seal.ik key ((Seal.amg use 256 : Nat) : Int)) key (l.take (min l.length 300))) (Seal.amg at_ (Seal.sealed (Seal.ek key ((Seal.amg use 256 : Nat) : Int)) (Seal.ik key ((Seal.amg use 256 : Nat) : Int)) key (l.take (min l.length 300))).length) x (Seal.amg cut 3)).take ((Seal.turned (Seal.sealed (Seal.ek key ((Seal.amg use 256 : Nat) : Int)) (Seal.ik key ((Seal.amg use 256 : Nat) : Int)) key (l.take (min l.length 300))) (Seal.amg at_ (Seal.sealed (Seal.ek key ((Seal.amg use 256 : Nat) : Int)) (Seal.ik key ((Seal.amg use 256 : Nat) : Int)) key (l.take (min l.length 300))).length) x (Seal.amg cut 3)).length - 16))) at htg
  have hK0 : True := trivial
  refine ⟨hK0, ?_⟩
  refine AL.take 8 rfl (by kernel_rfl) (by kernel_rfl) (by kernel_rfl) rfl rfl rfl hK0 (fun w hK => Res.move rfl rfl) ?_
  refine AL.take 9 rfl (by kernel_rfl) (by kernel_rfl) (by kernel_rfl) rfl rfl rfl hK0 (fun w hK => Res.extract (l := [_, _]) rfl rfl rfl) ?_
  refine AL.take 10 rfl (by kernel_rfl) (by kernel_rfl) (by kernel_rfl) rfl rfl rfl hK0 (fun w hK => Res.extract (l := [_, _]) rfl rfl rfl) ?_
  refine AL.take 11 rfl (by kernel_rfl) (by kernel_rfl) (by kernel_rfl) rfl rfl rfl hK0 (fun w hK => Res.assign rfl rfl) ?_
  refine AL.take 12 rfl (by kernel_rfl) (by kernel_rfl) (by kernel_rfl) rfl rfl rfl hK0 (fun w hK => Res.assign rfl rfl) ?_
  refine AL.done (by kernel_rfl) (Thn_n ?_)
  refine CW.seq ?_
  refine CW.region ?_
  refine WL.step rfl (Stp.res rfl rfl (Res.move rfl rfl) ?_)
  refine WL.step rfl (Stp.res rfl rfl (Res.to (Res.eql rfl rfl rfl) (by rfl)) ?_)
  refine WL.step rfl (Stp.res rfl rfl (Res.move rfl rfl) ?_)
  refine WL.stepG 2 true rfl rfl rfl rfl (Stp.res rfl rfl (Res.move rfl rfl) ?_)
  refine WL.stepG 2 true rfl rfl rfl rfl (Stp.res rfl rfl (Res.to (Res.eql rfl rfl rfl) (by rfl)) ?_)
  refine WL.stepG 2 true rfl rfl rfl rfl (Stp.res rfl rfl (Res.move rfl rfl) ?_)
  refine WL.stepG 2 true rfl rfl rfl rfl (Stp.res rfl rfl (Res.move rfl rfl) ?_)
  refine WL.stepG 2 true rfl rfl rfl rfl (Stp.res rfl rfl (Res.move rfl rfl) ?_)
  refine WL.stepG 2 true rfl rfl rfl rfl (Stp.res rfl rfl (Res.len rfl rfl rfl rfl Tryd.underlying23) ?_)
  refine WL.stepG 2 true rfl rfl rfl rfl (Stp.res rfl rfl (Res.cast (Res.sub rfl rfl rfl (by omega)) (v' := .int .i64 (((Seal.turned (Seal.sealed (Seal.ek key ((Seal.amg use 256 : Nat) : Int)) (Seal.ik key ((Seal.amg use 256 : Nat) : Int)) key (l.take (min l.length 300))) (Seal.amg at_ (Seal.sealed (Seal.ek key ((Seal.amg use 256 : Nat) : Int)) (Seal.ik key ((Seal.amg use 256 : Nat) : Int)) key (l.take (min l.length 300))).length) x (Seal.amg cut 3)).length - 16 : Nat) : Int)) (by congr 1; omega)) ?_)
  refine WL.stepG 2 true rfl rfl rfl rfl (Stp.res rfl rfl (Res.sliceLo (l := (Seal.turned (Seal.sealed (Seal.ek key ((Seal.amg use 256 : Nat) : Int)) (Seal.ik key ((Seal.amg use 256 : Nat) : Int)) key (l.take (min l.length 300))) (Seal.amg at_ (Seal.sealed (Seal.ek key ((Seal.amg use 256 : Nat) : Int)) (Seal.ik key ((Seal.amg use 256 : Nat) : Int)) key (l.take (min l.length 300))).length) x (Seal.amg cut 3)).length - 16) rfl rfl rfl Tryd.underlying23 sz5 (by omega)) ?_)
  refine WL.stepG 2 true rfl rfl rfl rfl (Stp.callA (args := [_, _]) rfl rfl rfl cal14 rfl rfl (samebytes_ok _ _ _ _ M7 _ hS.on htg ((hT.mono (hG6.trans hG7).1).drop (k := (Seal.turned (Seal.sealed (Seal.ek key ((Seal.amg use 256 : Nat) : Int)) (Seal.ik key ((Seal.amg use 256 : Nat) : Int)) key (l.take (min l.length 300))) (Seal.amg at_ (Seal.sealed (Seal.ek key ((Seal.amg use 256 : Nat) : Int)) (Seal.ik key ((Seal.amg use 256 : Nat) : Int)) key (l.take (min l.length 300))).length) x (Seal.amg cut 3)).length - 16) (by omega))) ?_)
  refine WL.stepG 2 true rfl rfl rfl rfl (Stp.res rfl rfl (Res.toB (Res.eqlBool rfl rfl rfl Tryd.underlying4) (by first | (rw [decide_eq_true hz]; done) | (rw [decide_eq_true hz]; rfl))) ?_)
  refine WL.step rfl (Stp.res rfl rfl (Res.pickT rfl rfl rfl) ?_)
  refine WL.step rfl (Stp.res rfl rfl (Res.move rfl rfl) ?_)
  refine WL.stepG 14 true rfl rfl rfl rfl (Stp.res rfl rfl (Res.move rfl rfl) ?_)
  refine WL.stepG 14 true rfl rfl rfl rfl (Stp.res rfl rfl (Res.to (Res.eql rfl rfl rfl) (by rfl)) ?_)
  refine WL.stepG 14 true rfl rfl rfl rfl (Stp.res rfl rfl (Res.move rfl rfl) ?_)
  refine WL.skipG 17 false rfl rfl rfl rfl rfl rfl ?_
  refine WL.skipG 17 false rfl rfl rfl rfl rfl rfl ?_
  refine WL.stepG 14 true rfl rfl rfl rfl (Stp.res rfl rfl (Res.pickT rfl rfl rfl) ?_)
  refine WL.step rfl (Stp.res rfl rfl (Res.pickT rfl rfl rfl) ?_)
  refine WL.step rfl (Stp.res rfl rfl (Res.assign rfl rfl) ?_)
  refine WL.nil (Thn_n ?_)
  refine CW.ret ?_
  exact fq_tmp rfl rfl ⟨M, hS.known ((((((hG1.trans hGW).trans hG3).trans hG5).trans hG6).trans hG7)).1, PH.le.refl _, Fresh.refl _ _, rfl, rfl⟩

theorem law_tags_bad (v : Value) (key l : List UInt8) (use at_ cut use2 : Int) (x : UInt8) (w0 : World) (M : PH) (hM : On M w0) (hgl : GL M) (hkl : key.length = 16) (hv : Bs M v l) (hq : 32 ≤ (Seal.turned (Seal.sealed (Seal.ek key ((Seal.amg use 256 : Nat) : Int)) (Seal.ik key ((Seal.amg use 256 : Nat) : Int)) key (l.take (min l.length 300))) (Seal.amg at_ (Seal.sealed (Seal.ek key ((Seal.amg use 256 : Nat) : Int)) (Seal.ik key ((Seal.amg use 256 : Nat) : Int)) key (l.take (min l.length 300))).length) x (Seal.amg cut 3)).length) (hz : ¬ Seal.tag (Seal.ik key ((Seal.amg use2 256 : Nat) : Int)) ((Seal.turned (Seal.sealed (Seal.ek key ((Seal.amg use 256 : Nat) : Int)) (Seal.ik key ((Seal.amg use 256 : Nat) : Int)) key (l.take (min l.length 300))) (Seal.amg at_ (Seal.sealed (Seal.ek key ((Seal.amg use 256 : Nat) : Int)) (Seal.ik key ((Seal.amg use 256 : Nat) : Int)) key (l.take (min l.length 300))).length) x (Seal.amg cut 3)).take ((Seal.turned (Seal.sealed (Seal.ek key ((Seal.amg use 256 : Nat) : Int)) (Seal.ik key ((Seal.amg use 256 : Nat) : Int)) key (l.take (min l.length 300))) (Seal.amg at_ (Seal.sealed (Seal.ek key ((Seal.amg use 256 : Nat) : Int)) (Seal.ik key ((Seal.amg use 256 : Nat) : Int)) key (l.take (min l.length 300))).length) x (Seal.amg cut 3)).length - 16)) = (Seal.turned (Seal.sealed (Seal.ek key ((Seal.amg use 256 : Nat) : Int)) (Seal.ik key ((Seal.amg use 256 : Nat) : Int)) key (l.take (min l.length 300))) (Seal.amg at_ (Seal.sealed (Seal.ek key ((Seal.amg use 256 : Nat) : Int)) (Seal.ik key ((Seal.amg use 256 : Nat) : Int)) key (l.take (min l.length 300))).length) x (Seal.amg cut 3)).drop ((Seal.turned (Seal.sealed (Seal.ek key ((Seal.amg use 256 : Nat) : Int)) (Seal.ik key ((Seal.amg use 256 : Nat) : Int)) key (l.take (min l.length 300))) (Seal.amg at_ (Seal.sealed (Seal.ek key ((Seal.amg use 256 : Nat) : Int)) (Seal.ik key ((Seal.amg use 256 : Nat) : Int)) key (l.take (min l.length 300))).length) x (Seal.amg cut 3)).length - 16)) : Ok Tryd.prog 7 #[.agg (bs key), .int .i64 use, v, .agg #[.int .i64 at_, .int .i64 cut, .int .i64 use2, byte x]] w0 M (fun M' r => M = M' ∧ r = .bool true) := by
  have hS := hM.st
  have hv0 := hv
  obtain ⟨va, vc, rfl, v1, v2, v3, v4⟩ := hv
  have ham := Seal.amg_lt use (n := 256) (by omega)
  have ham2 := Seal.amg_lt use2 (n := 256) (by omega)
  have hc3 := Seal.amg_lt cut (n := 3) (by omega)
  have htl : (l.take (min l.length 300)).length = min l.length 300 := by rw [List.length_take]; omega
  have hgd : Seal.Good key ((Seal.amg use 256 : Nat) : Int) := ⟨hkl, by omega, by omega⟩
  have hgd2 : Seal.Good key ((Seal.amg use2 256 : Nat) : Int) := ⟨hkl, by omega, by omega⟩
  have hBl := Seal.sealed_length (Seal.ek key ((Seal.amg use 256 : Nat) : Int)) (Seal.ik key ((Seal.amg use 256 : Nat) : Int)) key (l.take (min l.length 300)) hkl
  have hkk := Seal.amg_lt at_ (n := (Seal.sealed (Seal.ek key ((Seal.amg use 256 : Nat) : Int)) (Seal.ik key ((Seal.amg use 256 : Nat) : Int)) key (l.take (min l.length 300))).length) (by omega)
  have hTl := Seal.turned_length (Seal.sealed (Seal.ek key ((Seal.amg use 256 : Nat) : Int)) (Seal.ik key ((Seal.amg use 256 : Nat) : Int)) key (l.take (min l.length 300))) (Seal.amg at_ (Seal.sealed (Seal.ek key ((Seal.amg use 256 : Nat) : Int)) (Seal.ik key ((Seal.amg use 256 : Nat) : Int)) key (l.take (min l.length 300))).length) x (Seal.amg cut 3)
  have hlk : Seal.lookE key ((Seal.amg use2 256 : Nat) : Int) (Seal.turned (Seal.sealed (Seal.ek key ((Seal.amg use 256 : Nat) : Int)) (Seal.ik key ((Seal.amg use 256 : Nat) : Int)) key (l.take (min l.length 300))) (Seal.amg at_ (Seal.sealed (Seal.ek key ((Seal.amg use 256 : Nat) : Int)) (Seal.ik key ((Seal.amg use 256 : Nat) : Int)) key (l.take (min l.length 300))).length) x (Seal.amg cut 3)) = 70 := by rw [Seal.lookE_mid hgd2 hq (by rw [hTl]; omega), if_neg hz]
  refine enterB (l := [.agg (bs key), .int .i64 use, .slice va l.length vc, .agg #[.int .i64 at_, .int .i64 cut, .int .i64 use2, byte x]]) 117 Tryd.func7 rfl Tryd.ntmps7 rfl ?_
  refine CW.seq ?_
  refine CW.region ?_
  refine WL.step rfl (Stp.boxA rfl rfl rfl rfl hS ?_)
  intro b4 w hb4 hS hkp hnw
  refine WL.step rfl (Stp.boxA rfl rfl rfl rfl hS ?_)
  intro b7 w hb7 hS hkp hnw
  refine WL.step rfl (Stp.res rfl rfl (Res.assign rfl rfl) ?_)
  refine WL.nil (Thn_n ?_)
  refine CW.seq ?_
  refine CW.seq ?_
  obtain ⟨M1, hG1, hk, hbox, hS⟩ : ∃ M1, Grow w0.heap.size M M1 ∧ Bs M1 (.slice (some ⟨b4, 0, none⟩) 16 16) key ∧ M1 b7 = some (.cells #[.int .i64 at_, .int .i64 cut, .int .i64 use2, byte x] 39 (0, 0)) ∧ St w0 w M1 [] := by
    have hF := hS.freezeG (i := 0) rfl hb7
    have hF2 := hF.1.freezeG (i := 0) rfl hb4
    exact ⟨_, hF.2.trans hF2.2, Bs.of' (PH.add_self _ _ _) hkl (by omega), hF2.2.1 _ _ (PH.add_self _ _ _), hF2.1⟩
  refine CW.region ?_
  refine WL.step rfl (Stp.callG (args := []) rfl rfl rfl cal10 rfl rfl hS (works_ok _ _ hS.on (hgl.mono hG1.1)) ?_)
  rintro _ w MW hS hGW rfl
  refine WL.step rfl (Stp.res rfl rfl (Res.not rfl rfl rfl) ?_)
  refine WL.nil (Thn_n ?_)
  refine CW.condF rfl ?_
  refine CW.skip (Thn_n ?_)
  refine CW.seq ?_
  refine CW.region ?_
  refine WL.step rfl (Stp.res rfl rfl (Res.move rfl rfl) ?_)
  refine WL.step rfl (Stp.res rfl rfl (Res.move rfl rfl) ?_)
  refine WL.step rfl (Stp.res rfl rfl (Res.len rfl rfl rfl rfl Tryd.underlying23) ?_)
  refine WL.step rfl (Stp.res rfl rfl (Res.minN rfl rfl rfl) ?_)
  refine WL.step rfl (Stp.res rfl rfl (Res.sliceHi (h := min l.length 300) rfl rfl rfl Tryd.underlying23 sz5 (by omega)) ?_)
  refine WL.step rfl (Stp.res rfl rfl (Res.assign rfl rfl) ?_)
  refine WL.nil (Thn_n ?_)
  refine CW.seq ?_
  have hS := hS.drew
  refine CW.still mixed (by kernel_rfl) ?_
  refine SL.step rfl rfl rfl (Res.fieldA rfl rfl Tryd.underlying39 rfl (show SZ Tryd.prog _ 1 from sz3) (by decide)) ?_
  refine SL.step rfl rfl rfl (Res.load1 (v := .int .i64 at_) rfl rfl Tryd.underlying3 rfl (hS.cell (PH.cell_of (hGW.1 _ _ hbox) rfl))) ?_
  refine SL.step rfl rfl rfl (Res.fieldA rfl rfl Tryd.underlying39 rfl (show SZ Tryd.prog _ 1 from sz5) (by decide)) ?_
  refine SL.step rfl rfl rfl (Res.load1 (v := byte x) rfl rfl Tryd.underlying5 rfl (hS.cell (PH.cell_of (hGW.1 _ _ hbox) rfl))) ?_
  refine SL.step rfl rfl rfl (Res.fieldA rfl rfl Tryd.underlying39 rfl (show SZ Tryd.prog _ 1 from sz3) (by decide)) ?_
  refine SL.step rfl rfl rfl (Res.load1 (v := .int .i64 cut) rfl rfl Tryd.underlying3 rfl (hS.cell (PH.cell_of (hGW.1 _ _ hbox) rfl))) ?_
  refine SL.step rfl rfl rfl (Res.assign rfl rfl) ?_
  refine SL.step rfl rfl rfl (Res.assign rfl rfl) ?_
  refine SL.step rfl rfl rfl (Res.assign rfl rfl) ?_
  refine SL.nil (Thn_n ?_)
  refine CW.seq ?_
  have hS := hS.drew
  have hK0 := hS.on
  refine CW.held (fun w => On MW w) mixed ?_
  refine AL.take 0 rfl (by kernel_rfl) (by kernel_rfl) (by kernel_rfl) rfl rfl rfl hK0 (fun w hK => Res.move rfl rfl) ?_
  refine AL.take 2 rfl (by kernel_rfl) (by kernel_rfl) (by kernel_rfl) rfl rfl rfl hK0 (fun w hK => Res.fieldA rfl rfl Tryd.underlying39 rfl (show SZ Tryd.prog _ 1 from sz3) (by decide)) ?_
  refine AL.take 3 rfl (by kernel_rfl) (by kernel_rfl) (by kernel_rfl) rfl rfl rfl hK0 (fun w hK => Res.load1 (v := .int .i64 use2) rfl rfl Tryd.underlying3 rfl (w := w) (by have := hK _ _ (hGW.1 _ _ hbox); simp [World.cell?, this])) ?_
  refine AL.one 1 rfl (by kernel_rfl) rfl (Stp.callA (args := [_, _]) rfl rfl rfl cal11 rfl rfl (among_ok _ 256 (by omega) _) ?_)
  skip
  refine ⟨hK0, ?_⟩
  refine AL.one 4 rfl (by kernel_rfl) rfl (Stp.callA (args := [_, _]) rfl rfl rfl cal11 rfl rfl (among_ok _ 256 (by omega) _) ?_)
  skip
  refine ⟨hK0, ?_⟩
  refine AL.take 5 rfl (by kernel_rfl) (by kernel_rfl) (by kernel_rfl) rfl rfl rfl hK0 (fun w hK => Res.assign rfl rfl) ?_
  refine AL.take 6 rfl (by kernel_rfl) (by kernel_rfl) (by kernel_rfl) rfl rfl rfl hK0 (fun w hK => Res.assign rfl rfl) ?_
  refine AL.done (by kernel_rfl) (Thn_n ?_)
  refine CW.seq ?_
  have hS := hS.drew
  have hK0 : True := trivial
  refine CW.held (fun _ => True) mixed ?_
  refine AL.take 0 rfl (by kernel_rfl) (by kernel_rfl) (by kernel_rfl) rfl rfl rfl hK0 (fun w hK => Res.sliceA rfl rfl Tryd.underlying22 (by decide) sz5) ?_
  refine AL.take 1 rfl (by kernel_rfl) (by kernel_rfl) (by kernel_rfl) rfl rfl rfl hK0 (fun w hK => Res.move rfl rfl) ?_
  refine AL.take 2 rfl (by kernel_rfl) (by kernel_rfl) (by kernel_rfl) rfl rfl rfl hK0 (fun w hK => Res.sliceA rfl rfl Tryd.underlying22 (by decide) sz5) ?_
  refine AL.take 3 rfl (by kernel_rfl) (by kernel_rfl) (by kernel_rfl) rfl rfl rfl hK0 (fun w hK => Res.move rfl rfl) ?_
  refine AL.one 4 rfl (by kernel_rfl) rfl (Stp.callG (args := [_, _, _, _]) rfl rfl rfl cal12 rfl rfl hS (seal_all _ _ _ key key (l.take (min l.length 300)) ((Seal.amg use 256 : Nat) : Int) _ _ hS.on (hgl.mono (hG1.trans hGW).1) (hk.mono hGW.1) (hk.mono hGW.1) ((hv0.mono (hG1.trans hGW).1).take (by omega))) ?_)
  rintro _ w M3 hS hG3 ⟨sv, rfl, hsv⟩
  rw [Seal.sealR_ok hgd hkl (by omega)] at hsv ⊢
  change Bs M3 sv (Seal.sealed (Seal.ek key ((Seal.amg use 256 : Nat) : Int)) (Seal.ik key ((Seal.amg use 256 : Nat) : Int)) key (l.take (min l.length 300))) at hsv
  have hK0 : True := trivial
  refine ⟨hK0, ?_⟩
  refine AL.take 5 rfl (by kernel_rfl) (by kernel_rfl) (by kernel_rfl) rfl rfl rfl hK0 (fun w hK => Res.move rfl rfl) ?_
  refine AL.take 6 rfl (by kernel_rfl) (by kernel_rfl) (by kernel_rfl) rfl rfl rfl hK0 (fun w hK => Res.extract (l := [_, _]) rfl rfl rfl) ?_
  refine AL.take 7 rfl (by kernel_rfl) (by kernel_rfl) (by kernel_rfl) rfl rfl rfl hK0 (fun w hK => Res.extract (l := [_, _]) rfl rfl rfl) ?_
  refine AL.take 8 rfl (by kernel_rfl) (by kernel_rfl) (by kernel_rfl) rfl rfl rfl hK0 (fun w hK => Res.assign rfl rfl) ?_
  refine AL.take 9 rfl (by kernel_rfl) (by kernel_rfl) (by kernel_rfl) rfl rfl rfl hK0 (fun w hK => Res.assign rfl rfl) ?_
  refine AL.done (by kernel_rfl) (Thn_n ?_)
  refine CW.seq ?_
  refine CW.seq ?_
  obtain ⟨qa, qc, rfl, q1, q2, q3, q4⟩ := id hsv
  refine CW.region ?_
  refine WL.step rfl (Stp.res rfl rfl (Res.move rfl rfl) ?_)
  refine WL.step rfl (Stp.res rfl rfl (Res.len rfl rfl rfl rfl Tryd.underlying23) ?_)
  refine WL.step rfl (Stp.res rfl rfl (Res.lss rfl rfl rfl) ?_)
  refine WL.nil (Thn_n ?_)
  refine CW.iteF rfl (by omega) ?_
  refine CW.skip (Thn_n ?_)
  refine CW.seq ?_
  refine CW.region ?_
  refine WL.step rfl (Stp.res rfl rfl (Res.move rfl rfl) ?_)
  refine WL.step rfl (Stp.res rfl rfl (Res.move rfl rfl) ?_)
  refine WL.step rfl (Stp.res rfl rfl (Res.len rfl rfl rfl rfl Tryd.underlying23) ?_)
  refine WL.step rfl (Stp.callA (args := [_, _]) rfl rfl rfl cal11 rfl rfl (among_ok _ (Seal.sealed (Seal.ek key ((Seal.amg use 256 : Nat) : Int)) (Seal.ik key ((Seal.amg use 256 : Nat) : Int)) key (l.take (min l.length 300))).length (by omega) _) ?_)
  refine WL.step rfl (Stp.res rfl rfl (Res.assign rfl rfl) ?_)
  refine WL.nil (Thn_n ?_)
  refine CW.seq ?_
  have hsz10 := hS.size
  refine CW.region ?_
  refine WL.step rfl (Stp.res rfl rfl (Res.move rfl rfl) ?_)
  refine WL.step rfl (Stp.callG (args := [_]) rfl rfl rfl cal16 rfl rfl hS (bytes_own _ (Seal.sealed (Seal.ek key ((Seal.amg use 256 : Nat) : Int)) (Seal.ik key ((Seal.amg use 256 : Nat) : Int)) key (l.take (min l.length 300))) _ _ hS.on hsv (by omega) (by omega)) ?_)
  rintro _ w M4 hS hG4 ⟨bt, rest, cp, hmb, hbt, hM4, hc1, hc2, rfl⟩
  have hS := hS.take hM4 hG4.1 hmb
  have hbt := Nat.le_trans hsz10 hbt
  refine WL.step rfl (Stp.res rfl rfl (Res.assign rfl rfl) ?_)
  refine WL.nil (Thn_n ?_)
  refine CW.seq ?_
  refine CW.region ?_
  refine WL.step rfl (Stp.res rfl rfl (Res.move rfl rfl) ?_)
  refine WL.step rfl (Stp.res rfl rfl (Res.move rfl rfl) ?_)
  refine WL.step rfl (Stp.res rfl rfl (Res.move rfl rfl) ?_)
  refine WL.step rfl (Stp.res rfl rfl (Res.move rfl rfl) ?_)
  refine WL.step rfl (Stp.res rfl rfl (Res.idxS0 (k := (Seal.amg at_ (Seal.sealed (Seal.ek key ((Seal.amg use 256 : Nat) : Int)) (Seal.ik key ((Seal.amg use 256 : Nat) : Int)) key (l.take (min l.length 300))).length)) rfl rfl rfl Tryd.underlying23 sz5 (Int.toNat_natCast _) (by omega)) ?_)
  refine WL.step rfl (Stp.res rfl rfl (Res.load1 (v := byte ((Seal.sealed (Seal.ek key ((Seal.amg use 256 : Nat) : Int)) (Seal.ik key ((Seal.amg use 256 : Nat) : Int)) key (l.take (min l.length 300))).getD (Seal.amg at_ (Seal.sealed (Seal.ek key ((Seal.amg use 256 : Nat) : Int)) (Seal.ik key ((Seal.amg use 256 : Nat) : Int)) key (l.take (min l.length 300))).length) 0)) rfl rfl Tryd.underlying5 rfl (hS.ocell (i := 0) rfl (Gb_get (by omega)))) ?_)
  refine WL.step rfl (Stp.res rfl rfl (Res.move rfl rfl) ?_)
  refine WL.step rfl (Stp.res rfl rfl (Res.xorB _ rfl rfl rfl) ?_)
  refine WL.step rfl (Stp.res rfl rfl (Res.idxS0 (k := (Seal.amg at_ (Seal.sealed (Seal.ek key ((Seal.amg use 256 : Nat) : Int)) (Seal.ik key ((Seal.amg use 256 : Nat) : Int)) key (l.take (min l.length 300))).length)) rfl rfl rfl Tryd.underlying23 sz5 (Int.toNat_natCast _) (by omega)) ?_)
  refine WL.step rfl (Stp.store1 0 (v := byte ((Seal.sealed (Seal.ek key ((Seal.amg use 256 : Nat) : Int)) (Seal.ik key ((Seal.amg use 256 : Nat) : Int)) key (l.take (min l.length 300))).getD (Seal.amg at_ (Seal.sealed (Seal.ek key ((Seal.amg use 256 : Nat) : Int)) (Seal.ik key ((Seal.amg use 256 : Nat) : Int)) key (l.take (min l.length 300))).length) 0 ^^^ x)) rfl rfl rfl sz5 rfl rfl hS rfl (by simp; omega) ?_)
  intro w hS hpt
  change St w0 w M3 [(bt, .cells ((Gb (Seal.sealed (Seal.ek key ((Seal.amg use 256 : Nat) : Int)) (Seal.ik key ((Seal.amg use 256 : Nat) : Int)) key (l.take (min l.length 300))) rest).setIfInBounds (Seal.amg at_ (Seal.sealed (Seal.ek key ((Seal.amg use 256 : Nat) : Int)) (Seal.ik key ((Seal.amg use 256 : Nat) : Int)) key (l.take (min l.length 300))).length) (byte ((Seal.sealed (Seal.ek key ((Seal.amg use 256 : Nat) : Int)) (Seal.ik key ((Seal.amg use 256 : Nat) : Int)) key (l.take (min l.length 300))).getD (Seal.amg at_ (Seal.sealed (Seal.ek key ((Seal.amg use 256 : Nat) : Int)) (Seal.ik key ((Seal.amg use 256 : Nat) : Int)) key (l.take (min l.length 300))).length) 0 ^^^ x))) 5 (0, 0))] at hS
  rw [Gb_set (by omega)] at hS
  refine WL.nil (Thn_n ?_)
  refine CW.seq ?_
  have hF := hS.freezeG (i := 0) rfl hbt
  obtain ⟨M5, hG5, hM5, hS⟩ : ∃ M5, Grow w0.heap.size M3 M5 ∧ M5 bt = some (.cells (Gb ((Seal.sealed (Seal.ek key ((Seal.amg use 256 : Nat) : Int)) (Seal.ik key ((Seal.amg use 256 : Nat) : Int)) key (l.take (min l.length 300))).set (Seal.amg at_ (Seal.sealed (Seal.ek key ((Seal.amg use 256 : Nat) : Int)) (Seal.ik key ((Seal.amg use 256 : Nat) : Int)) key (l.take (min l.length 300))).length) ((Seal.sealed (Seal.ek key ((Seal.amg use 256 : Nat) : Int)) (Seal.ik key ((Seal.amg use 256 : Nat) : Int)) key (l.take (min l.length 300))).getD (Seal.amg at_ (Seal.sealed (Seal.ek key ((Seal.amg use 256 : Nat) : Int)) (Seal.ik key ((Seal.amg use 256 : Nat) : Int)) key (l.take (min l.length 300))).length) 0 ^^^ x)) rest) 5 (0, 0)) ∧ St w0 w M5 [] := ⟨_, hF.2, PH.add_self _ _ _, hF.1⟩
  have hT : Bs M5 (.slice (some ⟨bt, 0, none⟩) ((Seal.sealed (Seal.ek key ((Seal.amg use 256 : Nat) : Int)) (Seal.ik key ((Seal.amg use 256 : Nat) : Int)) key (l.take (min l.length 300))).length - (Seal.amg cut 3)) cp) (Seal.turned (Seal.sealed (Seal.ek key ((Seal.amg use 256 : Nat) : Int)) (Seal.ik key ((Seal.amg use 256 : Nat) : Int)) key (l.take (min l.length 300))) (Seal.amg at_ (Seal.sealed (Seal.ek key ((Seal.amg use 256 : Nat) : Int)) (Seal.ik key ((Seal.amg use 256 : Nat) : Int)) key (l.take (min l.length 300))).length) x (Seal.amg cut 3)) := Bs.ofGb hM5 (by rw [List.length_set]; omega) (by omega) hc2
  refine CW.region ?_
  refine WL.step rfl (Stp.res rfl rfl (Res.move rfl rfl) ?_)
  refine WL.step rfl (Stp.res rfl rfl (Res.move rfl rfl) ?_)
  refine WL.step rfl (Stp.res rfl rfl (Res.len rfl rfl rfl rfl Tryd.underlying23) ?_)
  refine WL.step rfl (Stp.res rfl rfl (Res.move rfl rfl) ?_)
  refine WL.step rfl (Stp.callA (args := [_, _]) rfl rfl rfl cal11 rfl rfl (among_ok _ 3 (by omega) _) ?_)
  refine WL.step rfl (Stp.res rfl rfl (Res.cast (Res.sub rfl rfl rfl (by omega)) (v' := .int .i64 (((Seal.sealed (Seal.ek key ((Seal.amg use 256 : Nat) : Int)) (Seal.ik key ((Seal.amg use 256 : Nat) : Int)) key (l.take (min l.length 300))).length - (Seal.amg cut 3) : Nat) : Int)) (by congr 1; omega)) ?_)
  refine WL.step rfl (Stp.res rfl rfl (Res.sliceHi (h := (Seal.sealed (Seal.ek key ((Seal.amg use 256 : Nat) : Int)) (Seal.ik key ((Seal.amg use 256 : Nat) : Int)) key (l.take (min l.length 300))).length - (Seal.amg cut 3)) rfl rfl rfl Tryd.underlying23 sz5 (by omega)) ?_)
  refine WL.step rfl (Stp.res rfl rfl (Res.assign rfl rfl) ?_)
  refine WL.nil (Thn_n ?_)
  refine CW.seq ?_
  refine CW.region ?_
  refine WL.step rfl (Stp.res rfl rfl (Res.sliceA rfl rfl Tryd.underlying22 (by decide) sz5) ?_)
  refine WL.step rfl (Stp.res rfl rfl (Res.move rfl rfl) ?_)
  refine WL.step rfl (Stp.res rfl rfl (Res.move rfl rfl) ?_)
  refine WL.step rfl (Stp.callG (args := [_, _, _]) rfl rfl rfl cal13 rfl rfl hS (open_all _ _ key (Seal.turned (Seal.sealed (Seal.ek key ((Seal.amg use 256 : Nat) : Int)) (Seal.ik key ((Seal.amg use 256 : Nat) : Int)) key (l.take (min l.length 300))) (Seal.amg at_ (Seal.sealed (Seal.ek key ((Seal.amg use 256 : Nat) : Int)) (Seal.ik key ((Seal.amg use 256 : Nat) : Int)) key (l.take (min l.length 300))).length) x (Seal.amg cut 3)) ((Seal.amg use2 256 : Nat) : Int) _ _ hS.on (hgl.mono (((hG1.trans hGW).trans hG3).trans hG5).1) (hk.mono ((hGW.trans hG3).trans hG5).1) hT) ?_)
  rintro _ w M6 hS hG6 ⟨ow, rfl, hov⟩
  rw [Seal.openR_two, hlk]
  refine WL.step rfl (Stp.res rfl rfl (Res.move rfl rfl) ?_)
  refine WL.step rfl (Stp.res rfl rfl (Res.extract (l := [_, _]) rfl rfl rfl) ?_)
  refine WL.step rfl (Stp.res rfl rfl (Res.extract (l := [_, _]) rfl rfl rfl) ?_)
  refine WL.step rfl (Stp.res rfl rfl (Res.assign rfl rfl) ?_)
  refine WL.step rfl (Stp.res rfl rfl (Res.assign rfl rfl) ?_)
  refine WL.nil (Thn_n ?_)
  refine CW.seq ?_
  refine CW.seq ?_
  refine CW.region ?_
  refine WL.step rfl (Stp.res rfl rfl (Res.move rfl rfl) ?_)
  refine WL.step rfl (Stp.res rfl rfl (Res.len rfl rfl rfl rfl Tryd.underlying23) ?_)
  refine WL.step rfl (Stp.res rfl rfl (Res.lss rfl rfl rfl) ?_)
  refine WL.nil (Thn_n ?_)
  refine CW.iteF rfl (by omega) ?_
  refine CW.skip (Thn_n ?_)
  refine CW.seq ?_
  have hS := hS.drew
  have hK0 : True := trivial
  refine CW.held (fun _ => True) mixed ?_
  refine AL.take 0 rfl (by kernel_rfl) (by kernel_rfl) (by kernel_rfl) rfl rfl rfl hK0 (fun w hK => Res.sliceA rfl rfl Tryd.underlying22 (by decide) sz5) ?_
  refine AL.take 1 rfl (by kernel_rfl) (by kernel_rfl) (by kernel_rfl) rfl rfl rfl hK0 (fun w hK => Res.move rfl rfl) ?_
  refine AL.take 2 rfl (by kernel_rfl) (by kernel_rfl) (by kernel_rfl) rfl rfl rfl hK0 (fun w hK => Res.move rfl rfl) ?_
  refine AL.take 3 rfl (by kernel_rfl) (by kernel_rfl) (by kernel_rfl) rfl rfl rfl hK0 (fun w hK => Res.move rfl rfl) ?_
  refine AL.take 4 rfl (by kernel_rfl) (by kernel_rfl) (by kernel_rfl) rfl rfl rfl hK0 (fun w hK => Res.len rfl rfl rfl rfl Tryd.underlying23) ?_
  refine AL.take 5 rfl (by kernel_rfl) (by kernel_rfl) (by kernel_rfl) rfl rfl rfl hK0 (fun w hK => Res.cast (Res.sub rfl rfl rfl (by omega)) (v' := .int .i64 (((Seal.turned (Seal.sealed (Seal.ek key ((Seal.amg use 256 : Nat) : Int)) (Seal.ik key ((Seal.amg use 256 : Nat) : Int)) key (l.take (min l.length 300))) (Seal.amg at_ (Seal.sealed (Seal.ek key ((Seal.amg use 256 : Nat) : Int)) (Seal.ik key ((Seal.amg use 256 : Nat) : Int)) key (l.take (min l.length 300))).length) x (Seal.amg cut 3)).length - 16 : Nat) : Int)) (by congr 1; omega)) ?_
  refine AL.take 6 rfl (by kernel_rfl) (by kernel_rfl) (by kernel_rfl) rfl rfl rfl hK0 (fun w hK => Res.sliceHi (h := (Seal.turned (Seal.sealed (Seal.ek key ((Seal.amg use 256 : Nat) : Int)) (Seal.ik key ((Seal.amg use 256 : Nat) : Int)) key (l.take (min l.length 300))) (Seal.amg at_ (Seal.sealed (Seal.ek key ((Seal.amg use 256 : Nat) : Int)) (Seal.ik key ((Seal.amg use 256 : Nat) : Int)) key (l.take (min l.length 300))).length) x (Seal.amg cut 3)).length - 16) rfl rfl rfl Tryd.underlying23 sz5 (by omega)) ?_
  refine AL.one 7 rfl (by kernel_rfl) rfl (Stp.callG (args := [_, _, _]) rfl rfl rfl cal21 rfl rfl hS (tag_all _ _ key ((Seal.turned (Seal.sealed (Seal.ek key ((Seal.amg use 256 : Nat) : Int)) (Seal.ik key ((Seal.amg use 256 : Nat) : Int)) key (l.take (min l.length 300))) (Seal.amg at_ (Seal.sealed (Seal.ek key ((Seal.amg use 256 : Nat) : Int)) (Seal.ik key ((Seal.amg use 256 : Nat) : Int)) key (l.take (min l.length 300))).length) x (Seal.amg cut 3)).take ((Seal.turned (Seal.sealed (Seal.ek key ((Seal.amg use 256 : Nat) : Int)) (Seal.ik key ((Seal.amg use 256 : Nat) : Int)) key (l.take (min l.length 300))) (Seal.amg at_ (Seal.sealed (Seal.ek key ((Seal.amg use 256 : Nat) : Int)) (Seal.ik key ((Seal.amg use 256 : Nat) : Int)) key (l.take (min l.length 300))).length) x (Seal.amg cut 3)).length - 16)) ((Seal.amg use2 256 : Nat) : Int) _ _ hS.on (hgl.mono ((((hG1.trans hGW).trans hG3).trans hG5).trans hG6).1) (hk.mono (((hGW.trans hG3).trans hG5).trans hG6).1) ((hT.mono hG6.1).take (by omega)) (by rw [List.length_take]; omega)) ?_)
  rintro _ w M7 hS hG7 ⟨tg, rfl, htg⟩
  rw [Seal.tagR, if_pos hgd2] at htg ⊢
  change Bs M7 tg (Seal.tag (Seal.ik key ((Seal.amg use2 256 : Nat) : Int)) ((Seal.turned (Seal.sealed (Seal.ek key ((Seal.amg use 256 : Nat) : Int)) (Seal.ik key ((Seal.amg use 256 : Nat) : Int)) key (l.take (min l.length 300))) (Seal.amg at_ (Seal.sealed (Seal.ek key ((Seal.amg use 256 : Nat) : Int)) (Seal.ik key ((Seal.amg use 256 : Nat) : Int)) key (l.take (min l.length 300))).length) x (Seal.amg cut 3)).take ((Seal.turned (Seal.sealed (Seal.ek key ((Seal.amg use 256 : Nat) : Int)) (Seal.ik key ((Seal.amg use 256 : Nat) : Int)) key (l.take (min l.length 300))) (Seal.amg at_ (Seal.sealed (Seal.ek key ((Seal.amg use 256 : Nat) : Int)) (Seal.ik key ((Seal.amg use 256 : Nat) : Int)) key (l.take (min l.length 300))).length) x (Seal.amg cut 3)).length - 16))) at htg
  have hK0 : True := trivial
  refine ⟨hK0, ?_⟩
  refine AL.take 8 rfl (by kernel_rfl) (by kernel_rfl) (by kernel_rfl) rfl rfl rfl hK0 (fun w hK => Res.move rfl rfl) ?_
  refine AL.take 9 rfl (by kernel_rfl) (by kernel_rfl) (by kernel_rfl) rfl rfl rfl hK0 (fun w hK => Res.extract (l := [_, _]) rfl rfl rfl) ?_
  refine AL.take 10 rfl (by kernel_rfl) (by kernel_rfl) (by kernel_rfl) rfl rfl rfl hK0 (fun w hK => Res.extract (l := [_, _]) rfl rfl rfl) ?_
  refine AL.take 11 rfl (by kernel_rfl) (by kernel_rfl) (by kernel_rfl) rfl rfl rfl hK0 (fun w hK => Res.assign rfl rfl) ?_
  refine AL.take 12 rfl (by kernel_rfl) (by kernel_rfl) (by kernel_rfl) rfl rfl rfl hK0 (fun w hK => Res.assign rfl rfl) ?_
  refine AL.done (by kernel_rfl) (Thn_n ?_)
  refine CW.seq ?_
  refine CW.region ?_
  refine WL.step rfl (Stp.res rfl rfl (Res.move rfl rfl) ?_)
  refine WL.step rfl (Stp.res rfl rfl (Res.to (Res.eql rfl rfl rfl) (by rfl)) ?_)
  refine WL.step rfl (Stp.res rfl rfl (Res.move rfl rfl) ?_)
  refine WL.stepG 2 true rfl rfl rfl rfl (Stp.res rfl rfl (Res.move rfl rfl) ?_)
  refine WL.stepG 2 true rfl rfl rfl rfl (Stp.res rfl rfl (Res.toF (Res.eql rfl rfl rfl) (by decide)) ?_)
  refine WL.stepG 2 true rfl rfl rfl rfl (Stp.res rfl rfl (Res.move rfl rfl) ?_)
  refine WL.stepG 2 true rfl rfl rfl rfl (Stp.res rfl rfl (Res.move rfl rfl) ?_)
  refine WL.stepG 2 true rfl rfl rfl rfl (Stp.res rfl rfl (Res.move rfl rfl) ?_)
  refine WL.stepG 2 true rfl rfl rfl rfl (Stp.res rfl rfl (Res.len rfl rfl rfl rfl Tryd.underlying23) ?_)
  refine WL.stepG 2 true rfl rfl rfl rfl (Stp.res rfl rfl (Res.cast (Res.sub rfl rfl rfl (by omega)) (v' := .int .i64 (((Seal.turned (Seal.sealed (Seal.ek key ((Seal.amg use 256 : Nat) : Int)) (Seal.ik key ((Seal.amg use 256 : Nat) : Int)) key (l.take (min l.length 300))) (Seal.amg at_ (Seal.sealed (Seal.ek key ((Seal.amg use 256 : Nat) : Int)) (Seal.ik key ((Seal.amg use 256 : Nat) : Int)) key (l.take (min l.length 300))).length) x (Seal.amg cut 3)).length - 16 : Nat) : Int)) (by congr 1; omega)) ?_)
  refine WL.stepG 2 true rfl rfl rfl rfl (Stp.res rfl rfl (Res.sliceLo (l := (Seal.turned (Seal.sealed (Seal.ek key ((Seal.amg use 256 : Nat) : Int)) (Seal.ik key ((Seal.amg use 256 : Nat) : Int)) key (l.take (min l.length 300))) (Seal.amg at_ (Seal.sealed (Seal.ek key ((Seal.amg use 256 : Nat) : Int)) (Seal.ik key ((Seal.amg use 256 : Nat) : Int)) key (l.take (min l.length 300))).length) x (Seal.amg cut 3)).length - 16) rfl rfl rfl Tryd.underlying23 sz5 (by omega)) ?_)
  refine WL.stepG 2 true rfl rfl rfl rfl (Stp.callA (args := [_, _]) rfl rfl rfl cal14 rfl rfl (samebytes_ok _ _ _ _ M7 _ hS.on htg ((hT.mono (hG6.trans hG7).1).drop (k := (Seal.turned (Seal.sealed (Seal.ek key ((Seal.amg use 256 : Nat) : Int)) (Seal.ik key ((Seal.amg use 256 : Nat) : Int)) key (l.take (min l.length 300))) (Seal.amg at_ (Seal.sealed (Seal.ek key ((Seal.amg use 256 : Nat) : Int)) (Seal.ik key ((Seal.amg use 256 : Nat) : Int)) key (l.take (min l.length 300))).length) x (Seal.amg cut 3)).length - 16) (by omega))) ?_)
  refine WL.stepG 2 true rfl rfl rfl rfl (Stp.res rfl rfl (Res.toB (Res.eqlBool rfl rfl rfl Tryd.underlying4) (by first | (rw [decide_eq_false hz]; done) | (rw [decide_eq_false hz]; rfl))) ?_)
  refine WL.step rfl (Stp.res rfl rfl (Res.pickT rfl rfl rfl) ?_)
  refine WL.step rfl (Stp.res rfl rfl (Res.move rfl rfl) ?_)
  refine WL.stepG 14 true rfl rfl rfl rfl (Stp.res rfl rfl (Res.move rfl rfl) ?_)
  refine WL.stepG 14 true rfl rfl rfl rfl (Stp.res rfl rfl (Res.toF (Res.eql rfl rfl rfl) (by decide)) ?_)
  refine WL.stepG 14 true rfl rfl rfl rfl (Stp.res rfl rfl (Res.move rfl rfl) ?_)
  refine WL.stepG 17 false rfl rfl rfl rfl (Stp.res rfl rfl (Res.move rfl rfl) ?_)
  refine WL.stepG 17 false rfl rfl rfl rfl (Stp.res rfl rfl (Res.to (Res.eql rfl rfl rfl) (by rfl)) ?_)
  refine WL.stepG 14 true rfl rfl rfl rfl (Stp.res rfl rfl (Res.pickF rfl rfl rfl) ?_)
  refine WL.step rfl (Stp.res rfl rfl (Res.pickT rfl rfl rfl) ?_)
  refine WL.step rfl (Stp.res rfl rfl (Res.assign rfl rfl) ?_)
  refine WL.nil (Thn_n ?_)
  refine CW.ret ?_
  exact fq_tmp rfl rfl ⟨M, hS.known ((((((hG1.trans hGW).trans hG3).trans hG5).trans hG6).trans hG7)).1, PH.le.refl _, Fresh.refl _ _, rfl, rfl⟩

theorem law_tags (v : Value) (key l : List UInt8) (use at_ cut use2 : Int) (x : UInt8) (w0 : World) (M : PH) (hM : On M w0) (hgl : GL M) (hkl : key.length = 16) (hv : Bs M v l) : Ok Tryd.prog 7 #[.agg (bs key), .int .i64 use, v, .agg #[.int .i64 at_, .int .i64 cut, .int .i64 use2, byte x]] w0 M (fun M' r => M = M' ∧ r = .bool true) := by
  by_cases hq : (Seal.turned (Seal.sealed (Seal.ek key ((Seal.amg use 256 : Nat) : Int)) (Seal.ik key ((Seal.amg use 256 : Nat) : Int)) key (l.take (min l.length 300))) (Seal.amg at_ (Seal.sealed (Seal.ek key ((Seal.amg use 256 : Nat) : Int)) (Seal.ik key ((Seal.amg use 256 : Nat) : Int)) key (l.take (min l.length 300))).length) x (Seal.amg cut 3)).length < 32
  · exact law_tags_short v key l use at_ cut use2 x w0 M hM hgl hkl hv hq
  · by_cases hz : Seal.tag (Seal.ik key ((Seal.amg use2 256 : Nat) : Int)) ((Seal.turned (Seal.sealed (Seal.ek key ((Seal.amg use 256 : Nat) : Int)) (Seal.ik key ((Seal.amg use 256 : Nat) : Int)) key (l.take (min l.length 300))) (Seal.amg at_ (Seal.sealed (Seal.ek key ((Seal.amg use 256 : Nat) : Int)) (Seal.ik key ((Seal.amg use 256 : Nat) : Int)) key (l.take (min l.length 300))).length) x (Seal.amg cut 3)).take ((Seal.turned (Seal.sealed (Seal.ek key ((Seal.amg use 256 : Nat) : Int)) (Seal.ik key ((Seal.amg use 256 : Nat) : Int)) key (l.take (min l.length 300))) (Seal.amg at_ (Seal.sealed (Seal.ek key ((Seal.amg use 256 : Nat) : Int)) (Seal.ik key ((Seal.amg use 256 : Nat) : Int)) key (l.take (min l.length 300))).length) x (Seal.amg cut 3)).length - 16)) = (Seal.turned (Seal.sealed (Seal.ek key ((Seal.amg use 256 : Nat) : Int)) (Seal.ik key ((Seal.amg use 256 : Nat) : Int)) key (l.take (min l.length 300))) (Seal.amg at_ (Seal.sealed (Seal.ek key ((Seal.amg use 256 : Nat) : Int)) (Seal.ik key ((Seal.amg use 256 : Nat) : Int)) key (l.take (min l.length 300))).length) x (Seal.amg cut 3)).drop ((Seal.turned (Seal.sealed (Seal.ek key ((Seal.amg use 256 : Nat) : Int)) (Seal.ik key ((Seal.amg use 256 : Nat) : Int)) key (l.take (min l.length 300))) (Seal.amg at_ (Seal.sealed (Seal.ek key ((Seal.amg use 256 : Nat) : Int)) (Seal.ik key ((Seal.amg use 256 : Nat) : Int)) key (l.take (min l.length 300))).length) x (Seal.amg cut 3)).length - 16)
    · exact law_tags_good v key l use at_ cut use2 x w0 M hM hgl hkl hv (by omega) hz
    · exact law_tags_bad v key l use at_ cut use2 x w0 M hM hgl hkl hv (by omega) hz
end Go.Proofs.YtcmgimicdcchlaaDoor
