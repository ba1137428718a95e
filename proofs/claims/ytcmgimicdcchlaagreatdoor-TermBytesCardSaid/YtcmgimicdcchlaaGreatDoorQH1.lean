/- Lemmas on the way to the statement; no condition of its own. -/
import Derived.LaidEql
import Derived.Stop.Asserts
import Derived.RowKitTokens
import Derived.Test.YtcmgimicdcchlaaGreatDoorQF
import Derived.Test.YtcmgimicdcchlaaGreatDoorQR
import Derived.Test.YtcmgimicdcchlaaGreatDoorQTr
import Derived.Test.YtcmgimicdcchlaaGreatDoorQE3
import Derived.Test.YtcmgimicdcchlaaGreatDoorTick4
set_option linter.unusedSimpArgs false
set_option linter.unusedVariables false
set_option maxRecDepth 20000
namespace Go.Proofs.YtcmgimicdcchlaaGreatDoor
open Go.Proofs.Tryz
open Go Go.E Go.Trm
theorem etB : ET Tryz.prog 30 5 (byte 0) 1 1 := ⟨underlying30, by kernel_rfl⟩
theorem etL : ET Tryz.prog 94 30 (.slice none 0 0) 1 24 := ⟨underlying94, by kernel_rfl⟩
theorem etT22 : ET Tryz.prog 22 35 (.agg #[.int .i64 0, .slice none 0 0, Go.E.str [], .int .i64 0, .slice none 0 0]) 5 80 := ⟨underlying22, by kernel_rfl⟩
theorem etT24 : ET Tryz.prog 24 32 (.agg #[.int .i64 0, .slice none 0 0, Go.E.str [], .int .i64 0, .slice none 0 0]) 5 80 := ⟨underlying24, by kernel_rfl⟩
theorem etT89 : ET Tryz.prog 89 35 (.agg #[.int .i64 0, .slice none 0 0, Go.E.str [], .int .i64 0, .slice none 0 0]) 5 80 := ⟨underlying89, by kernel_rfl⟩
end Go.Proofs.YtcmgimicdcchlaaGreatDoor
set_option linter.unusedSimpArgs false
set_option linter.unusedVariables false
set_option maxRecDepth 20000
namespace Go.Proofs.YtcmgimicdcchlaaGreatDoor
open Go.Proofs.Tryz
open Go Go.E Go.Trm
def SameC (f : FuncId) (t u : T) : Prop := ∀ (da1 : Option Addr) (dc1 : Nat) (la1 : Option Addr) (lc1 : Nat) (da2 : Option Addr) (dc2 : Nat) (la2 : Option Addr) (lc2 : Nat) (w0 : World) (M : PH) (_ : On M w0) (hd1 : Bs M (.slice da1 t.data.length dc1) t.data) (hs1 : Ts M (.slice la1 t.subs.length lc1) t.subs) (hd2 : Bs M (.slice da2 u.data.length dc2) u.data) (hs2 : Ts M (.slice la2 u.subs.length lc2) u.subs), Ok Tryz.prog f #[.agg (TV t da1 dc1 la1 lc1), .agg (TV u da2 dc2 la2 lc2)] w0 M (fun M' r => M = M' ∧ r = .bool (decide (t = u)))
def CanC (f : FuncId) (l : List T) (t : T) : Prop := ∀ (ka : Option Addr) (kc : Nat) (da1 : Option Addr) (dc1 : Nat) (la1 : Option Addr) (lc1 : Nat) (w0 : World) (M : PH) (_ : On M w0) (hk : Ts M (.slice ka l.length kc) l) (hd1 : Bs M (.slice da1 t.data.length dc1) t.data) (hs1 : Ts M (.slice la1 t.subs.length lc1) t.subs), Ok Tryz.prog f #[.slice ka l.length kc, .agg (TV t da1 dc1 la1 lc1)] w0 M (fun M' r => M = M' ∧ r = .bool (decide (KCan l t)))
theorem cal61 : Callable Tryz.prog 61 := ⟨Tryz.f61, func61, rfl, by kernel_rfl⟩
theorem cal69 : Callable Tryz.prog 69 := ⟨Tryz.f69, func69, rfl, by kernel_rfl⟩
theorem cal73 : Callable Tryz.prog 73 := ⟨Tryz.f73, func73, rfl, by kernel_rfl⟩
theorem sz22 : (Tryz.prog.info? 22).map (·.size) = some 1 := by kernel_rfl
theorem sz24 : (Tryz.prog.info? 24).map (·.size) = some 1 := by kernel_rfl
theorem sz32 : (Tryz.prog.info? 32).map (·.size) = some 5 := by kernel_rfl
theorem sz35 : (Tryz.prog.info? 35).map (·.size) = some 5 := by kernel_rfl
theorem zt35 : (Tryz.prog.info? 35).map (·.zero) = some (some (.agg #[.int .i64 ((0 : Nat) : Int), .slice (none) (0) (0), Go.E.str ([]), .int .i64 ((0 : Nat) : Int), .slice (none) (0) (0)])) := by kernel_rfl
theorem bequal_ok (v u : Value) (a b : List UInt8) (M : PH) (w : World) (hM : On M w) (ha : Bs M v a) (hb : Bs M u b) : Calls Tryz.prog 73 #[v, u] w fun e w' => ∃ r, e = .returned r ∧ r = .bool (decide (a = b)) ∧ w' = w := by
  refine enter (l := [v, u]) 10 func73 rfl ntmps73 rfl ?_
  refine CW.seq ?_
  refine CW.region ?_
  refine WL.step rfl (Stp.res rfl rfl (Res.assign rfl rfl) ?_)
  refine WL.nil (Thn_n ?_)
  refine CW.seq ?_
  refine CW.region ?_
  refine WL.step rfl (Stp.res rfl rfl (Res.move rfl rfl) ?_)
  refine WL.step rfl (Stp.res rfl rfl (Res.b2s (l := a) rfl rfl hM.st ha underlying30 underlying5 underlying9) ?_)
  refine WL.step rfl (Stp.res rfl rfl (Res.move rfl rfl) ?_)
  refine WL.step rfl (Stp.res rfl rfl (Res.b2s (l := b) rfl rfl hM.st hb underlying30 underlying5 underlying9) ?_)
  refine WL.step rfl (Stp.res rfl rfl (Res.eqlS (a := a) (b := b) rfl rfl rfl) ?_)
  refine WL.step rfl (Stp.res rfl rfl (Res.assign rfl rfl) ?_)
  refine WL.nil (Thn_n ?_)
  refine CW.ret ?_
  exact fq_tmp rfl rfl ⟨rfl, rfl⟩
theorem tsame_step (t u : T) (ih : ∀ t' u', size t' < size t → SameC 69 t' u') : SameC 69 t u := by
  intro da1 dc1 la1 lc1 da2 dc2 la2 lc2 w0 M hM hd1 hs1 hd2 hs2
  have hS := hM.st
  have hbl1 := hs1.len
  have hbl2 := hs2.len
  refine enterB (l := [.agg (TV (t) da1 dc1 la1 lc1), .agg (TV (u) da2 dc2 la2 lc2)]) 60 func69 rfl ntmps69 rfl ?_
  refine CW.seq ?_
  refine CW.region ?_
  refine WL.step rfl (Stp.boxA (cs := TV (t) da1 dc1 la1 lc1) rfl rfl rfl rfl hS ?_)
  intro b2_0 w hbb2_0 hS hkp hnw
  obtain ⟨M2, hG2, hbb2_0_2, hS⟩ : ∃ Mx, Grow w0.heap.size M Mx ∧ Kb Mx b2_0 (.cells (TV (t) da1 dc1 la1 lc1) 35 (0, 0)) ∧ St w0 w Mx ([]) := by
    have hF := hS.freezeG (i := 0) rfl hbb2_0
    exact ⟨_, hF.2, PH.add_self _ _ _, hF.1⟩
  refine WL.step rfl (Stp.boxA (cs := TV (u) da2 dc2 la2 lc2) rfl rfl rfl rfl hS ?_)
  intro b3_2 w hbb3_2 hS hkp hnw
  obtain ⟨M4, hG4, hbb3_2_4, hS⟩ : ∃ Mx, Grow w0.heap.size M2 Mx ∧ Kb Mx b3_2 (.cells (TV (u) da2 dc2 la2 lc2) 35 (0, 0)) ∧ St w0 w Mx ([]) := by
    have hF := hS.freezeG (i := 0) rfl hbb3_2
    exact ⟨_, hF.2, PH.add_self _ _ _, hF.1⟩
  refine WL.step rfl (Stp.res rfl rfl (Res.assign rfl rfl) ?_)
  refine WL.nil (Thn_n ?_)
  refine CW.seq ?_
  refine CW.seq ?_
  refine CW.region ?_
  refine WL.step rfl (Stp.res rfl rfl (Res.fieldA rfl rfl underlying35 rfl (show SZ Tryz.prog _ 1 from sz3) (by decide)) ?_)
  refine WL.step rfl (Stp.res rfl rfl (Res.load1 (v := .int .i64 (t.kind)) rfl rfl underlying3 rfl (hS.cell (PH.cell_of (hbb2_0_2.mono hG4.1) rfl))) ?_)
  refine WL.step rfl (Stp.res rfl rfl (Res.fieldA rfl rfl underlying35 rfl (show SZ Tryz.prog _ 1 from sz3) (by decide)) ?_)
  refine WL.step rfl (Stp.res rfl rfl (Res.load1 (v := .int .i64 (u.kind)) rfl rfl underlying3 rfl (hS.cell (PH.cell_of hbb3_2_4 rfl))) ?_)
  refine WL.step rfl (Stp.res rfl rfl (Res.neq rfl rfl rfl) ?_)
  refine WL.step rfl (Stp.res rfl rfl (Res.move rfl rfl) ?_)
  by_cases hg5 : ¬ (t.kind) = (u.kind)
  · refine WL.skipG 5 false rfl rfl rfl (bT hg5) rfl rfl ?_
    refine WL.skipG 5 false rfl rfl rfl (bT hg5) rfl rfl ?_
    refine WL.skipG 5 false rfl rfl rfl (bT hg5) rfl rfl ?_
    refine WL.skipG 5 false rfl rfl rfl (bT hg5) rfl rfl ?_
    refine WL.skipG 5 false rfl rfl rfl (bT hg5) rfl rfl ?_
    refine WL.step rfl (Stp.res rfl rfl (Res.pickT rfl (bT hg5) rfl) ?_)
    refine WL.step rfl (Stp.res rfl rfl (Res.move rfl rfl) ?_)
    refine WL.skipG 12 false rfl rfl rfl rfl rfl rfl ?_
    refine WL.skipG 12 false rfl rfl rfl rfl rfl rfl ?_
    refine WL.skipG 12 false rfl rfl rfl rfl rfl rfl ?_
    refine WL.skipG 12 false rfl rfl rfl rfl rfl rfl ?_
    refine WL.skipG 12 false rfl rfl rfl rfl rfl rfl ?_
    refine WL.step rfl (Stp.res rfl rfl (Res.pickT rfl rfl rfl) ?_)
    refine WL.step rfl (Stp.res rfl rfl (Res.move rfl rfl) ?_)
    refine WL.skipG 19 false rfl rfl rfl rfl rfl rfl ?_
    refine WL.skipG 19 false rfl rfl rfl rfl rfl rfl ?_
    refine WL.skipG 19 false rfl rfl rfl rfl rfl rfl ?_
    refine WL.skipG 19 false rfl rfl rfl rfl rfl rfl ?_
    refine WL.skipG 19 false rfl rfl rfl rfl rfl rfl ?_
    refine WL.skipG 19 false rfl rfl rfl rfl rfl rfl ?_
    refine WL.step rfl (Stp.res rfl rfl (Res.pickT rfl rfl rfl) ?_)
    refine WL.step rfl (Stp.res rfl rfl (Res.move rfl rfl) ?_)
    refine WL.skipG 27 false rfl rfl rfl rfl rfl rfl ?_
    refine WL.skipG 27 false rfl rfl rfl rfl rfl rfl ?_
    refine WL.skipG 27 false rfl rfl rfl rfl rfl rfl ?_
    refine WL.skipG 27 false rfl rfl rfl rfl rfl rfl ?_
    refine WL.skipG 27 false rfl rfl rfl rfl rfl rfl ?_
    refine WL.skipG 27 false rfl rfl rfl rfl rfl rfl ?_
    refine WL.skipG 27 false rfl rfl rfl rfl rfl rfl ?_
    refine WL.step rfl (Stp.res rfl rfl (Res.pickT rfl rfl rfl) ?_)
    refine WL.nil (Thn_n ?_)
    refine CW.condT rfl ?_
    refine CW.seq ?_
    refine CW.region ?_
    refine WL.step rfl (Stp.res rfl rfl (Res.assign rfl rfl) ?_)
    refine WL.nil (Thn_n ?_)
    refine CW.ret (Thn_r ?_)
    exact fq_tmp rfl rfl ⟨M, (hS.known (hG2.trans hG4).1), PH.le.refl _, Fresh.refl _ _, rfl, (congrArg Value.bool (decide_eq_false (by intro e; subst e; exact absurd rfl (by assumption))).symm)⟩
  · refine WL.stepG 5 false rfl rfl rfl (bF hg5) (Stp.res rfl rfl (Res.fieldA rfl rfl underlying35 rfl (show SZ Tryz.prog _ 1 from sz9) (by decide)) ?_)
    refine WL.stepG 5 false rfl rfl rfl (bF hg5) (Stp.res rfl rfl (Res.load1 (v := Go.E.str (t.name)) rfl rfl underlying9 rfl (hS.cell (PH.cell_of (hbb2_0_2.mono hG4.1) rfl))) ?_)
    refine WL.stepG 5 false rfl rfl rfl (bF hg5) (Stp.res rfl rfl (Res.fieldA rfl rfl underlying35 rfl (show SZ Tryz.prog _ 1 from sz9) (by decide)) ?_)
    refine WL.stepG 5 false rfl rfl rfl (bF hg5) (Stp.res rfl rfl (Res.load1 (v := Go.E.str (u.name)) rfl rfl underlying9 rfl (hS.cell (PH.cell_of hbb3_2_4 rfl))) ?_)
    refine WL.stepG 5 false rfl rfl rfl (bF hg5) (Stp.res rfl rfl (Res.neqS (a := t.name) (b := u.name) rfl rfl rfl) ?_)
    refine WL.step rfl (Stp.res rfl rfl (Res.pickF rfl (bF hg5) rfl) ?_)
    refine WL.step rfl (Stp.res rfl rfl (Res.move rfl rfl) ?_)
    by_cases hg6 : ¬ t.name = u.name
    · refine WL.skipG 12 false rfl rfl rfl (bT hg6) rfl rfl ?_
      refine WL.skipG 12 false rfl rfl rfl (bT hg6) rfl rfl ?_
      refine WL.skipG 12 false rfl rfl rfl (bT hg6) rfl rfl ?_
      refine WL.skipG 12 false rfl rfl rfl (bT hg6) rfl rfl ?_
      refine WL.skipG 12 false rfl rfl rfl (bT hg6) rfl rfl ?_
      refine WL.step rfl (Stp.res rfl rfl (Res.pickT rfl (bT hg6) rfl) ?_)
      refine WL.step rfl (Stp.res rfl rfl (Res.move rfl rfl) ?_)
      refine WL.skipG 19 false rfl rfl rfl rfl rfl rfl ?_
      refine WL.skipG 19 false rfl rfl rfl rfl rfl rfl ?_
      refine WL.skipG 19 false rfl rfl rfl rfl rfl rfl ?_
      refine WL.skipG 19 false rfl rfl rfl rfl rfl rfl ?_
      refine WL.skipG 19 false rfl rfl rfl rfl rfl rfl ?_
      refine WL.skipG 19 false rfl rfl rfl rfl rfl rfl ?_
      refine WL.step rfl (Stp.res rfl rfl (Res.pickT rfl rfl rfl) ?_)
      refine WL.step rfl (Stp.res rfl rfl (Res.move rfl rfl) ?_)
      refine WL.skipG 27 false rfl rfl rfl rfl rfl rfl ?_
      refine WL.skipG 27 false rfl rfl rfl rfl rfl rfl ?_
      refine WL.skipG 27 false rfl rfl rfl rfl rfl rfl ?_
      refine WL.skipG 27 false rfl rfl rfl rfl rfl rfl ?_
      refine WL.skipG 27 false rfl rfl rfl rfl rfl rfl ?_
      refine WL.skipG 27 false rfl rfl rfl rfl rfl rfl ?_
      refine WL.skipG 27 false rfl rfl rfl rfl rfl rfl ?_
      refine WL.step rfl (Stp.res rfl rfl (Res.pickT rfl rfl rfl) ?_)
      refine WL.nil (Thn_n ?_)
      refine CW.condT rfl ?_
      refine CW.seq ?_
      refine CW.region ?_
      refine WL.step rfl (Stp.res rfl rfl (Res.assign rfl rfl) ?_)
      refine WL.nil (Thn_n ?_)
      refine CW.ret (Thn_r ?_)
      exact fq_tmp rfl rfl ⟨M, (hS.known (hG2.trans hG4).1), PH.le.refl _, Fresh.refl _ _, rfl, (congrArg Value.bool (decide_eq_false (by intro e; subst e; exact absurd rfl (by assumption))).symm)⟩
    · refine WL.stepG 12 false rfl rfl rfl (bF hg6) (Stp.res rfl rfl (Res.fieldA rfl rfl underlying35 rfl (show SZ Tryz.prog _ 1 from sz3) (by decide)) ?_)
      refine WL.stepG 12 false rfl rfl rfl (bF hg6) (Stp.res rfl rfl (Res.load1 (v := .int .i64 (t.num)) rfl rfl underlying3 rfl (hS.cell (PH.cell_of (hbb2_0_2.mono hG4.1) rfl))) ?_)
      refine WL.stepG 12 false rfl rfl rfl (bF hg6) (Stp.res rfl rfl (Res.fieldA rfl rfl underlying35 rfl (show SZ Tryz.prog _ 1 from sz3) (by decide)) ?_)
      refine WL.stepG 12 false rfl rfl rfl (bF hg6) (Stp.res rfl rfl (Res.load1 (v := .int .i64 (u.num)) rfl rfl underlying3 rfl (hS.cell (PH.cell_of hbb3_2_4 rfl))) ?_)
      refine WL.stepG 12 false rfl rfl rfl (bF hg6) (Stp.res rfl rfl (Res.neq rfl rfl rfl) ?_)
      refine WL.step rfl (Stp.res rfl rfl (Res.pickF rfl (bF hg6) rfl) ?_)
      refine WL.step rfl (Stp.res rfl rfl (Res.move rfl rfl) ?_)
      by_cases hg7 : ¬ (t.num) = (u.num)
      · refine WL.skipG 19 false rfl rfl rfl (bT hg7) rfl rfl ?_
        refine WL.skipG 19 false rfl rfl rfl (bT hg7) rfl rfl ?_
        refine WL.skipG 19 false rfl rfl rfl (bT hg7) rfl rfl ?_
        refine WL.skipG 19 false rfl rfl rfl (bT hg7) rfl rfl ?_
        refine WL.skipG 19 false rfl rfl rfl (bT hg7) rfl rfl ?_
        refine WL.skipG 19 false rfl rfl rfl (bT hg7) rfl rfl ?_
        refine WL.step rfl (Stp.res rfl rfl (Res.pickT rfl (bT hg7) rfl) ?_)
        refine WL.step rfl (Stp.res rfl rfl (Res.move rfl rfl) ?_)
        refine WL.skipG 27 false rfl rfl rfl rfl rfl rfl ?_
        refine WL.skipG 27 false rfl rfl rfl rfl rfl rfl ?_
        refine WL.skipG 27 false rfl rfl rfl rfl rfl rfl ?_
        refine WL.skipG 27 false rfl rfl rfl rfl rfl rfl ?_
        refine WL.skipG 27 false rfl rfl rfl rfl rfl rfl ?_
        refine WL.skipG 27 false rfl rfl rfl rfl rfl rfl ?_
        refine WL.skipG 27 false rfl rfl rfl rfl rfl rfl ?_
        refine WL.step rfl (Stp.res rfl rfl (Res.pickT rfl rfl rfl) ?_)
        refine WL.nil (Thn_n ?_)
        refine CW.condT rfl ?_
        refine CW.seq ?_
        refine CW.region ?_
        refine WL.step rfl (Stp.res rfl rfl (Res.assign rfl rfl) ?_)
        refine WL.nil (Thn_n ?_)
        refine CW.ret (Thn_r ?_)
        exact fq_tmp rfl rfl ⟨M, (hS.known (hG2.trans hG4).1), PH.le.refl _, Fresh.refl _ _, rfl, (congrArg Value.bool (decide_eq_false (by intro e; subst e; exact absurd rfl (by assumption))).symm)⟩
      · refine WL.stepG 19 false rfl rfl rfl (bF hg7) (Stp.res rfl rfl (Res.fieldA rfl rfl underlying35 rfl (show SZ Tryz.prog _ 1 from sz30) (by decide)) ?_)
        refine WL.stepG 19 false rfl rfl rfl (bF hg7) (Stp.res rfl rfl (Res.load1 (v := .slice (da1) (t.data.length) (dc1)) rfl rfl underlying30 rfl (hS.cell (PH.cell_of (hbb2_0_2.mono hG4.1) rfl))) ?_)
        refine WL.stepG 19 false rfl rfl rfl (bF hg7) (Stp.res rfl rfl (Res.fieldA rfl rfl underlying35 rfl (show SZ Tryz.prog _ 1 from sz30) (by decide)) ?_)
        refine WL.stepG 19 false rfl rfl rfl (bF hg7) (Stp.res rfl rfl (Res.load1 (v := .slice (da2) (u.data.length) (dc2)) rfl rfl underlying30 rfl (hS.cell (PH.cell_of hbb3_2_4 rfl))) ?_)
        refine WL.stepG 19 false rfl rfl rfl (bF hg7) (Stp.callA (args := [.slice (da1) (t.data.length) (dc1), .slice (da2) (u.data.length) (dc2)]) rfl rfl rfl cal73 rfl rfl (bequal_ok _ _ (t.data) (u.data) M4 _ hS.on (hd1.mono (hG2.trans hG4).1) (hd2.mono (hG2.trans hG4).1)) ?_)
        refine WL.stepG 19 false rfl rfl rfl (bF hg7) (Stp.res rfl rfl (Res.notP rfl rfl rfl) ?_)
        refine WL.step rfl (Stp.res rfl rfl (Res.pickF rfl (bF hg7) rfl) ?_)
        refine WL.step rfl (Stp.res rfl rfl (Res.move rfl rfl) ?_)
        by_cases hg8 : ¬ (t.data = u.data)
        · refine WL.skipG 27 false rfl rfl rfl (bT hg8) rfl rfl ?_
          refine WL.skipG 27 false rfl rfl rfl (bT hg8) rfl rfl ?_
          refine WL.skipG 27 false rfl rfl rfl (bT hg8) rfl rfl ?_
          refine WL.skipG 27 false rfl rfl rfl (bT hg8) rfl rfl ?_
          refine WL.skipG 27 false rfl rfl rfl (bT hg8) rfl rfl ?_
          refine WL.skipG 27 false rfl rfl rfl (bT hg8) rfl rfl ?_
          refine WL.skipG 27 false rfl rfl rfl (bT hg8) rfl rfl ?_
          refine WL.step rfl (Stp.res rfl rfl (Res.pickT rfl (bT hg8) rfl) ?_)
          refine WL.nil (Thn_n ?_)
          refine CW.condT rfl ?_
          refine CW.seq ?_
          refine CW.region ?_
          refine WL.step rfl (Stp.res rfl rfl (Res.assign rfl rfl) ?_)
          refine WL.nil (Thn_n ?_)
          refine CW.ret (Thn_r ?_)
          exact fq_tmp rfl rfl ⟨M, (hS.known (hG2.trans hG4).1), PH.le.refl _, Fresh.refl _ _, rfl, (congrArg Value.bool (decide_eq_false (by intro e; subst e; exact absurd rfl (by assumption))).symm)⟩
        · refine WL.stepG 27 false rfl rfl rfl (bF hg8) (Stp.res rfl rfl (Res.fieldA rfl rfl underlying35 rfl (show SZ Tryz.prog _ 1 from sz22) (by decide)) ?_)
          refine WL.stepG 27 false rfl rfl rfl (bF hg8) (Stp.res rfl rfl (Res.load1 (v := .slice (la1) (t.subs.length) (lc1)) rfl rfl underlying22 rfl (hS.cell (PH.cell_of (hbb2_0_2.mono hG4.1) rfl))) ?_)
          refine WL.stepG 27 false rfl rfl rfl (bF hg8) (Stp.res rfl rfl (Res.len rfl rfl rfl rfl underlying22) ?_)
          refine WL.stepG 27 false rfl rfl rfl (bF hg8) (Stp.res rfl rfl (Res.fieldA rfl rfl underlying35 rfl (show SZ Tryz.prog _ 1 from sz22) (by decide)) ?_)
          refine WL.stepG 27 false rfl rfl rfl (bF hg8) (Stp.res rfl rfl (Res.load1 (v := .slice (la2) (u.subs.length) (lc2)) rfl rfl underlying22 rfl (hS.cell (PH.cell_of hbb3_2_4 rfl))) ?_)
          refine WL.stepG 27 false rfl rfl rfl (bF hg8) (Stp.res rfl rfl (Res.len rfl rfl rfl rfl underlying22) ?_)
          refine WL.stepG 27 false rfl rfl rfl (bF hg8) (Stp.res rfl rfl (Res.neq rfl rfl rfl) ?_)
          refine WL.step rfl (Stp.res rfl rfl (Res.pickF rfl (bF hg8) rfl) ?_)
          refine WL.nil (Thn_n ?_)
          refine CW.ite rfl (fun hc9 => ?_) (fun hc9 => ?_)
          · refine CW.seq ?_
            refine CW.region ?_
            refine WL.step rfl (Stp.res rfl rfl (Res.assign rfl rfl) ?_)
            refine WL.nil (Thn_n ?_)
            refine CW.ret (Thn_r ?_)
            exact fq_tmp rfl rfl ⟨M, (hS.known (hG2.trans hG4).1), PH.le.refl _, Fresh.refl _ _, rfl, (congrArg Value.bool (decide_eq_false (by intro e; subst e; exact absurd rfl (by assumption))).symm)⟩
          · refine CW.skip (Thn_n ?_)
            refine CW.seq ?_
            refine CW.seq ?_
            refine CW.region ?_
            refine WL.step rfl (Stp.res rfl rfl (Res.fieldA rfl rfl underlying35 rfl (show SZ Tryz.prog _ 1 from sz22) (by decide)) ?_)
            refine WL.step rfl (Stp.res rfl rfl (Res.load1 (v := .slice (la1) (t.subs.length) (lc1)) rfl rfl underlying22 rfl (hS.cell (PH.cell_of (hbb2_0_2.mono hG4.1) rfl))) ?_)
            refine WL.step rfl (Stp.res rfl rfl (Res.len rfl rfl rfl rfl underlying22) ?_)
            refine WL.step rfl (Stp.res rfl rfl (Res.move rfl rfl) ?_)
            refine WL.nil (Thn_n ?_)
            refine CW.block ?_
            refine CW.loop (σ := Nat) (fun i => [(3, .pointer (some ⟨b3_2, 0, none⟩)), (44, .slice (la1) (t.subs.length) (lc1)), (45, .int .i64 ((t.subs.length : Nat) : Int)), (46, .int .i64 ((i : Nat) : Int))])
              (fun i w' => i ≤ t.subs.length ∧ (∀ j, j < i → t.subs.getD j T0 = u.subs.getD j T0) ∧ St w0 w' M4 ([])) (fun i => t.subs.length - i) 0 ⟨rfl, rfl, rfl, rfl, trivial⟩ ⟨by omega, fun j hj => by omega, hS⟩ ?_
            rintro i w ⟨hi, hall, hS⟩
            refine CW.seq ?_
            refine CW.region ?_
            refine WL.step rfl (Stp.res rfl rfl (Res.lss rfl rfl rfl) ?_)
            refine WL.nil (Thn_n ?_)
            refine CW.seq ?_
            refine CW.ite rfl (fun hc10 => ?_) (fun hc10 => ?_)
            · refine CW.skip (Thn_n ?_)
              refine CW.seq ?_
              refine CW.block ?_
              refine CW.seq ?_
              refine CW.region ?_
              refine WL.step rfl (Stp.res rfl rfl (Res.move rfl rfl) ?_)
              obtain ⟨be11, oe11, dae11, dce11, sae11, sce11, eae11, hce11, hde11, hse11⟩ := Ts2.get (j := i) hs1 (by omega)
              have hne11 := hse11.len
              refine WL.step rfl (Stp.res rfl rfl (Res.idxT 5 (k := i) rfl rfl eae11 rfl underlying22 sz35 (Int.toNat_natCast _) (by omega)) ?_)
              refine WL.step rfl (Stp.res rfl rfl (Res.loadN (r := (TV ((t.subs.getD i T0)) dae11 dce11 sae11 sce11).toList) rfl rfl underlying35 rfl sz35 rfl (fun j u hu => hS.cell (PH.cell_mono (hG2.trans hG4).1 (hce11 j u hu)))) ?_)
              refine WL.step rfl (Stp.alloc (cs := #[.int .i64 ((0 : Nat) : Int), .slice (none) (0) (0), Go.E.str ([]), .int .i64 ((0 : Nat) : Int), .slice (none) (0) (0)]) rfl zt35 rfl rfl rfl hS ?_)
              intro b6_11 w hbb6_11 hS hkp hnw
              refine WL.step rfl (Stp.res rfl rfl (Res.assign rfl rfl) ?_)
              refine WL.step rfl (Stp.storeAll 0 rfl rfl rfl (sz35) (Tm.of (hde11.mono (hG2.trans hG4).1) (hse11.mono (hG2.trans hG4).1)).one rfl hS rfl rfl ?_)
              intro w hS hpt
              change St w0 _ M4 ([(b6_11, .cells (TV ((t.subs.getD i T0)) dae11 dce11 sae11 sce11) 35 (0, 0))]) at hS
              obtain ⟨M13, hG13, hbb6_11_13, hS⟩ : ∃ Mx, Grow w0.heap.size M4 Mx ∧ Kb Mx b6_11 (.cells (TV ((t.subs.getD i T0)) dae11 dce11 sae11 sce11) 35 (0, 0)) ∧ St w0 w Mx ([]) := by
                have hF := hS.freezeG (i := 0) rfl hbb6_11
                exact ⟨_, hF.2, PH.add_self _ _ _, hF.1⟩
              refine WL.nil (Thn_n ?_)
              refine CW.seq ?_
              have hS := hS.drew
              refine CW.tail 6 mixed (by kernel_rfl) ?_
              refine SL.step rfl rfl rfl (Res.loadAll (cs := TV ((t.subs.getD i T0)) dae11 dce11 sae11 sce11) rfl rfl underlying35 rfl sz35 (hS.on _ _ hbb6_11_13)) ?_
              refine SL.step rfl rfl rfl (Res.fieldA rfl rfl underlying35 rfl (show SZ Tryz.prog _ 1 from sz22) (by decide)) ?_
              refine SL.step rfl rfl rfl (Res.load1 (v := .slice (la2) (u.subs.length) (lc2)) rfl rfl underlying22 rfl (hS.cell (PH.cell_of (hbb3_2_4.mono hG13.1) rfl))) ?_
              refine SL.step rfl rfl rfl (Res.move rfl rfl) ?_
              obtain ⟨be14, oe14, dae14, dce14, sae14, sce14, eae14, hce14, hde14, hse14⟩ := Ts2.get (j := i) hs2 (by omega)
              have hne14 := hse14.len
              refine SL.step rfl rfl rfl (Res.idxT 5 (k := i) rfl rfl eae14 rfl underlying22 sz35 (Int.toNat_natCast _) (by omega)) ?_
              refine SL.step rfl rfl rfl (Res.loadN (r := (TV ((u.subs.getD i T0)) dae14 dce14 sae14 sce14).toList) rfl rfl underlying35 rfl sz35 rfl (fun j u hu => hS.cell (PH.cell_mono ((hG2.trans hG4).trans hG13).1 (hce14 j u hu)))) ?_
              refine SL.nil ?_
              refine WL.step rfl (Stp.callG (args := [.agg (TV ((t.subs.getD i T0)) dae11 dce11 sae11 sce11), .agg (TV ((u.subs.getD i T0)) dae14 dce14 sae14 sce14)]) rfl rfl rfl cal69 rfl rfl hS (ih ((t.subs.getD i T0)) ((u.subs.getD i T0)) (by first | exact size_at (by omega) | (apply size_at; omega)) _ _ _ _ _ _ _ _ _ _ hS.on (hde11.mono ((hG2.trans hG4).trans hG13).1) (hse11.mono ((hG2.trans hG4).trans hG13).1) (hde14.mono ((hG2.trans hG4).trans hG13).1) (hse14.mono ((hG2.trans hG4).trans hG13).1)) ?_)
              rintro _ w _ hS _ ⟨rfl, rfl⟩
              refine WL.step rfl (Stp.res rfl rfl (Res.notP rfl rfl rfl) ?_)
              refine WL.nil (Thn_n ?_)
              refine CW.ite rfl (fun hc15 => ?_) (fun hc15 => ?_)
              · refine CW.seq ?_
                refine CW.region ?_
                refine WL.step rfl (Stp.res rfl rfl (Res.assign rfl rfl) ?_)
                refine WL.nil (Thn_n ?_)
                refine CW.ret (Blk_r (Thn_r (Thn_r (Blk_r (Thn_r ?_)))))
                exact fq_tmp rfl rfl ⟨M, (hS.known ((hG2.trans hG4).trans hG13).1), PH.le.refl _, Fresh.refl _ _, rfl, (congrArg Value.bool (decide_eq_false (by intro e; subst e; exact absurd rfl (by assumption))).symm)⟩
              · have heq := Decidable.not_not.1 hc15
                refine CW.skip (Blk_n (Thn_n ?_))
                refine CW.region ?_
                refine WL.step rfl (Stp.res rfl rfl (Res.cast (Res.add rfl rfl rfl (by omega)) (show _ = (.int .i64 ((i + 1 : Nat) : Int) : Value) from congrArg (Value.int .i64) (by omega))) ?_)
                refine WL.step rfl (Stp.res rfl rfl (Res.move rfl rfl) ?_)
                refine WL.nil (Thn_n ?_)
                exact ⟨i + 1, ⟨(rfl), (rfl), (rfl), (by first | rfl | exact intc (by omega)), trivial⟩, ⟨by omega, (fun j hj => by
                    by_cases e : j = i
                    · rw [e]; exact heq
                    · exact hall j (by omega)), hS.known hG13.1⟩, by omega⟩
            · refine CW.exit (Thn_x (Thn_x (Blk_x (Thn_n ?_))))
              refine CW.seq ?_
              refine CW.region ?_
              refine WL.step rfl (Stp.res rfl rfl (Res.assign rfl rfl) ?_)
              refine WL.nil (Thn_n ?_)
              refine CW.ret ?_
              exact fq_tmp rfl rfl ⟨M, (hS.known (hG2.trans hG4).1), PH.le.refl _, Fresh.refl _ _, rfl, (congrArg Value.bool (decide_eq_true (T.eq_of (by omega) (Decidable.not_not.1 (by assumption)) (Decidable.not_not.1 (by assumption)) (by omega) (by omega) fun j hj => hall j (by omega))).symm)⟩
theorem tsame_ok (t u : T) : SameC 69 t u := indS (p := fun t => ∀ u, SameC 69 t u) (fun t ih u => tsame_step t u fun t' u' h => ih t' h u') t u
theorem rsame_step (t u : T) (ih : ∀ t' u', size t' < size t → SameC 61 t' u') : SameC 61 t u := by
  intro da1 dc1 la1 lc1 da2 dc2 la2 lc2 w0 M hM hd1 hs1 hd2 hs2
  have hS := hM.st
  have hbl1 := hs1.len
  have hbl2 := hs2.len
  refine enterB (l := [.agg (TV (t) da1 dc1 la1 lc1), .agg (TV (u) da2 dc2 la2 lc2)]) 61 func61 rfl ntmps61 rfl ?_
  refine CW.seq ?_
  refine CW.region ?_
  refine WL.step rfl (Stp.boxA (cs := TV (t) da1 dc1 la1 lc1) rfl rfl rfl rfl hS ?_)
  intro b2_0 w hbb2_0 hS hkp hnw
  obtain ⟨M2, hG2, hbb2_0_2, hS⟩ : ∃ Mx, Grow w0.heap.size M Mx ∧ Kb Mx b2_0 (.cells (TV (t) da1 dc1 la1 lc1) 32 (0, 0)) ∧ St w0 w Mx ([]) := by
    have hF := hS.freezeG (i := 0) rfl hbb2_0
    exact ⟨_, hF.2, PH.add_self _ _ _, hF.1⟩
  refine WL.step rfl (Stp.boxA (cs := TV (u) da2 dc2 la2 lc2) rfl rfl rfl rfl hS ?_)
  intro b3_2 w hbb3_2 hS hkp hnw
  obtain ⟨M4, hG4, hbb3_2_4, hS⟩ : ∃ Mx, Grow w0.heap.size M2 Mx ∧ Kb Mx b3_2 (.cells (TV (u) da2 dc2 la2 lc2) 32 (0, 0)) ∧ St w0 w Mx ([]) := by
    have hF := hS.freezeG (i := 0) rfl hbb3_2
    exact ⟨_, hF.2, PH.add_self _ _ _, hF.1⟩
  refine WL.step rfl (Stp.res rfl rfl (Res.assign rfl rfl) ?_)
  refine WL.nil (Thn_n ?_)
  refine CW.seq ?_
  refine CW.seq ?_
  refine CW.region ?_
  refine WL.step rfl (Stp.res rfl rfl (Res.fieldA rfl rfl underlying32 rfl (show SZ Tryz.prog _ 1 from sz3) (by decide)) ?_)
  refine WL.step rfl (Stp.res rfl rfl (Res.load1 (v := .int .i64 (t.kind)) rfl rfl underlying3 rfl (hS.cell (PH.cell_of (hbb2_0_2.mono hG4.1) rfl))) ?_)
  refine WL.step rfl (Stp.res rfl rfl (Res.fieldA rfl rfl underlying32 rfl (show SZ Tryz.prog _ 1 from sz3) (by decide)) ?_)
  refine WL.step rfl (Stp.res rfl rfl (Res.load1 (v := .int .i64 (u.kind)) rfl rfl underlying3 rfl (hS.cell (PH.cell_of hbb3_2_4 rfl))) ?_)
  refine WL.step rfl (Stp.res rfl rfl (Res.neq rfl rfl rfl) ?_)
  refine WL.step rfl (Stp.res rfl rfl (Res.move rfl rfl) ?_)
  by_cases hg5 : ¬ (t.kind) = (u.kind)
  · refine WL.skipG 5 false rfl rfl rfl (bT hg5) rfl rfl ?_
    refine WL.skipG 5 false rfl rfl rfl (bT hg5) rfl rfl ?_
    refine WL.skipG 5 false rfl rfl rfl (bT hg5) rfl rfl ?_
    refine WL.skipG 5 false rfl rfl rfl (bT hg5) rfl rfl ?_
    refine WL.skipG 5 false rfl rfl rfl (bT hg5) rfl rfl ?_
    refine WL.skipG 5 false rfl rfl rfl (bT hg5) rfl rfl ?_
    refine WL.step rfl (Stp.res rfl rfl (Res.pickT rfl (bT hg5) rfl) ?_)
    refine WL.step rfl (Stp.res rfl rfl (Res.move rfl rfl) ?_)
    refine WL.skipG 13 false rfl rfl rfl rfl rfl rfl ?_
    refine WL.skipG 13 false rfl rfl rfl rfl rfl rfl ?_
    refine WL.skipG 13 false rfl rfl rfl rfl rfl rfl ?_
    refine WL.skipG 13 false rfl rfl rfl rfl rfl rfl ?_
    refine WL.skipG 13 false rfl rfl rfl rfl rfl rfl ?_
    refine WL.step rfl (Stp.res rfl rfl (Res.pickT rfl rfl rfl) ?_)
    refine WL.step rfl (Stp.res rfl rfl (Res.move rfl rfl) ?_)
    refine WL.skipG 20 false rfl rfl rfl rfl rfl rfl ?_
    refine WL.skipG 20 false rfl rfl rfl rfl rfl rfl ?_
    refine WL.skipG 20 false rfl rfl rfl rfl rfl rfl ?_
    refine WL.skipG 20 false rfl rfl rfl rfl rfl rfl ?_
    refine WL.skipG 20 false rfl rfl rfl rfl rfl rfl ?_
    refine WL.step rfl (Stp.res rfl rfl (Res.pickT rfl rfl rfl) ?_)
    refine WL.step rfl (Stp.res rfl rfl (Res.move rfl rfl) ?_)
    refine WL.skipG 27 false rfl rfl rfl rfl rfl rfl ?_
    refine WL.skipG 27 false rfl rfl rfl rfl rfl rfl ?_
    refine WL.skipG 27 false rfl rfl rfl rfl rfl rfl ?_
    refine WL.skipG 27 false rfl rfl rfl rfl rfl rfl ?_
    refine WL.skipG 27 false rfl rfl rfl rfl rfl rfl ?_
    refine WL.skipG 27 false rfl rfl rfl rfl rfl rfl ?_
    refine WL.skipG 27 false rfl rfl rfl rfl rfl rfl ?_
    refine WL.step rfl (Stp.res rfl rfl (Res.pickT rfl rfl rfl) ?_)
    refine WL.nil (Thn_n ?_)
    refine CW.condT rfl ?_
    refine CW.seq ?_
    refine CW.region ?_
    refine WL.step rfl (Stp.res rfl rfl (Res.assign rfl rfl) ?_)
    refine WL.nil (Thn_n ?_)
    refine CW.ret (Thn_r ?_)
    exact fq_tmp rfl rfl ⟨M, (hS.known (hG2.trans hG4).1), PH.le.refl _, Fresh.refl _ _, rfl, (congrArg Value.bool (decide_eq_false (by intro e; subst e; exact absurd rfl (by assumption))).symm)⟩
  · refine WL.stepG 5 false rfl rfl rfl (bF hg5) (Stp.res rfl rfl (Res.fieldA rfl rfl underlying32 rfl (show SZ Tryz.prog _ 1 from sz30) (by decide)) ?_)
    refine WL.stepG 5 false rfl rfl rfl (bF hg5) (Stp.res rfl rfl (Res.load1 (v := .slice (da1) (t.data.length) (dc1)) rfl rfl underlying30 rfl (hS.cell (PH.cell_of (hbb2_0_2.mono hG4.1) rfl))) ?_)
    refine WL.stepG 5 false rfl rfl rfl (bF hg5) (Stp.res rfl rfl (Res.fieldA rfl rfl underlying32 rfl (show SZ Tryz.prog _ 1 from sz30) (by decide)) ?_)
    refine WL.stepG 5 false rfl rfl rfl (bF hg5) (Stp.res rfl rfl (Res.load1 (v := .slice (da2) (u.data.length) (dc2)) rfl rfl underlying30 rfl (hS.cell (PH.cell_of hbb3_2_4 rfl))) ?_)
    refine WL.stepG 5 false rfl rfl rfl (bF hg5) (Stp.callA (args := [.slice (da1) (t.data.length) (dc1), .slice (da2) (u.data.length) (dc2)]) rfl rfl rfl cal24 rfl rfl (samebytes_ok _ _ (t.data) (u.data) M4 _ hS.on (hd1.mono (hG2.trans hG4).1) (hd2.mono (hG2.trans hG4).1)) ?_)
    refine WL.stepG 5 false rfl rfl rfl (bF hg5) (Stp.res rfl rfl (Res.notP rfl rfl rfl) ?_)
    refine WL.step rfl (Stp.res rfl rfl (Res.pickF rfl (bF hg5) rfl) ?_)
    refine WL.step rfl (Stp.res rfl rfl (Res.move rfl rfl) ?_)
    by_cases hg6 : ¬ (t.data = u.data)
    · refine WL.skipG 13 false rfl rfl rfl (bT hg6) rfl rfl ?_
      refine WL.skipG 13 false rfl rfl rfl (bT hg6) rfl rfl ?_
      refine WL.skipG 13 false rfl rfl rfl (bT hg6) rfl rfl ?_
      refine WL.skipG 13 false rfl rfl rfl (bT hg6) rfl rfl ?_
      refine WL.skipG 13 false rfl rfl rfl (bT hg6) rfl rfl ?_
      refine WL.step rfl (Stp.res rfl rfl (Res.pickT rfl (bT hg6) rfl) ?_)
      refine WL.step rfl (Stp.res rfl rfl (Res.move rfl rfl) ?_)
      refine WL.skipG 20 false rfl rfl rfl rfl rfl rfl ?_
      refine WL.skipG 20 false rfl rfl rfl rfl rfl rfl ?_
      refine WL.skipG 20 false rfl rfl rfl rfl rfl rfl ?_
      refine WL.skipG 20 false rfl rfl rfl rfl rfl rfl ?_
      refine WL.skipG 20 false rfl rfl rfl rfl rfl rfl ?_
      refine WL.step rfl (Stp.res rfl rfl (Res.pickT rfl rfl rfl) ?_)
      refine WL.step rfl (Stp.res rfl rfl (Res.move rfl rfl) ?_)
      refine WL.skipG 27 false rfl rfl rfl rfl rfl rfl ?_
      refine WL.skipG 27 false rfl rfl rfl rfl rfl rfl ?_
      refine WL.skipG 27 false rfl rfl rfl rfl rfl rfl ?_
      refine WL.skipG 27 false rfl rfl rfl rfl rfl rfl ?_
      refine WL.skipG 27 false rfl rfl rfl rfl rfl rfl ?_
      refine WL.skipG 27 false rfl rfl rfl rfl rfl rfl ?_
      refine WL.skipG 27 false rfl rfl rfl rfl rfl rfl ?_
      refine WL.step rfl (Stp.res rfl rfl (Res.pickT rfl rfl rfl) ?_)
      refine WL.nil (Thn_n ?_)
      refine CW.condT rfl ?_
      refine CW.seq ?_
      refine CW.region ?_
      refine WL.step rfl (Stp.res rfl rfl (Res.assign rfl rfl) ?_)
      refine WL.nil (Thn_n ?_)
      refine CW.ret (Thn_r ?_)
      exact fq_tmp rfl rfl ⟨M, (hS.known (hG2.trans hG4).1), PH.le.refl _, Fresh.refl _ _, rfl, (congrArg Value.bool (decide_eq_false (by intro e; subst e; exact absurd rfl (by assumption))).symm)⟩
    · refine WL.stepG 13 false rfl rfl rfl (bF hg6) (Stp.res rfl rfl (Res.fieldA rfl rfl underlying32 rfl (show SZ Tryz.prog _ 1 from sz9) (by decide)) ?_)
      refine WL.stepG 13 false rfl rfl rfl (bF hg6) (Stp.res rfl rfl (Res.load1 (v := Go.E.str (t.name)) rfl rfl underlying9 rfl (hS.cell (PH.cell_of (hbb2_0_2.mono hG4.1) rfl))) ?_)
      refine WL.stepG 13 false rfl rfl rfl (bF hg6) (Stp.res rfl rfl (Res.fieldA rfl rfl underlying32 rfl (show SZ Tryz.prog _ 1 from sz9) (by decide)) ?_)
      refine WL.stepG 13 false rfl rfl rfl (bF hg6) (Stp.res rfl rfl (Res.load1 (v := Go.E.str (u.name)) rfl rfl underlying9 rfl (hS.cell (PH.cell_of hbb3_2_4 rfl))) ?_)
      refine WL.stepG 13 false rfl rfl rfl (bF hg6) (Stp.res rfl rfl (Res.neqS (a := t.name) (b := u.name) rfl rfl rfl) ?_)
      refine WL.step rfl (Stp.res rfl rfl (Res.pickF rfl (bF hg6) rfl) ?_)
      refine WL.step rfl (Stp.res rfl rfl (Res.move rfl rfl) ?_)
      by_cases hg7 : ¬ t.name = u.name
      · refine WL.skipG 20 false rfl rfl rfl (bT hg7) rfl rfl ?_
        refine WL.skipG 20 false rfl rfl rfl (bT hg7) rfl rfl ?_
        refine WL.skipG 20 false rfl rfl rfl (bT hg7) rfl rfl ?_
        refine WL.skipG 20 false rfl rfl rfl (bT hg7) rfl rfl ?_
        refine WL.skipG 20 false rfl rfl rfl (bT hg7) rfl rfl ?_
        refine WL.step rfl (Stp.res rfl rfl (Res.pickT rfl (bT hg7) rfl) ?_)
        refine WL.step rfl (Stp.res rfl rfl (Res.move rfl rfl) ?_)
        refine WL.skipG 27 false rfl rfl rfl rfl rfl rfl ?_
        refine WL.skipG 27 false rfl rfl rfl rfl rfl rfl ?_
        refine WL.skipG 27 false rfl rfl rfl rfl rfl rfl ?_
        refine WL.skipG 27 false rfl rfl rfl rfl rfl rfl ?_
        refine WL.skipG 27 false rfl rfl rfl rfl rfl rfl ?_
        refine WL.skipG 27 false rfl rfl rfl rfl rfl rfl ?_
        refine WL.skipG 27 false rfl rfl rfl rfl rfl rfl ?_
        refine WL.step rfl (Stp.res rfl rfl (Res.pickT rfl rfl rfl) ?_)
        refine WL.nil (Thn_n ?_)
        refine CW.condT rfl ?_
        refine CW.seq ?_
        refine CW.region ?_
        refine WL.step rfl (Stp.res rfl rfl (Res.assign rfl rfl) ?_)
        refine WL.nil (Thn_n ?_)
        refine CW.ret (Thn_r ?_)
        exact fq_tmp rfl rfl ⟨M, (hS.known (hG2.trans hG4).1), PH.le.refl _, Fresh.refl _ _, rfl, (congrArg Value.bool (decide_eq_false (by intro e; subst e; exact absurd rfl (by assumption))).symm)⟩
      · refine WL.stepG 20 false rfl rfl rfl (bF hg7) (Stp.res rfl rfl (Res.fieldA rfl rfl underlying32 rfl (show SZ Tryz.prog _ 1 from sz3) (by decide)) ?_)
        refine WL.stepG 20 false rfl rfl rfl (bF hg7) (Stp.res rfl rfl (Res.load1 (v := .int .i64 (t.num)) rfl rfl underlying3 rfl (hS.cell (PH.cell_of (hbb2_0_2.mono hG4.1) rfl))) ?_)
        refine WL.stepG 20 false rfl rfl rfl (bF hg7) (Stp.res rfl rfl (Res.fieldA rfl rfl underlying32 rfl (show SZ Tryz.prog _ 1 from sz3) (by decide)) ?_)
        refine WL.stepG 20 false rfl rfl rfl (bF hg7) (Stp.res rfl rfl (Res.load1 (v := .int .i64 (u.num)) rfl rfl underlying3 rfl (hS.cell (PH.cell_of hbb3_2_4 rfl))) ?_)
        refine WL.stepG 20 false rfl rfl rfl (bF hg7) (Stp.res rfl rfl (Res.neq rfl rfl rfl) ?_)
        refine WL.step rfl (Stp.res rfl rfl (Res.pickF rfl (bF hg7) rfl) ?_)
        refine WL.step rfl (Stp.res rfl rfl (Res.move rfl rfl) ?_)
        by_cases hg8 : ¬ (t.num) = (u.num)
        · refine WL.skipG 27 false rfl rfl rfl (bT hg8) rfl rfl ?_
          refine WL.skipG 27 false rfl rfl rfl (bT hg8) rfl rfl ?_
          refine WL.skipG 27 false rfl rfl rfl (bT hg8) rfl rfl ?_
          refine WL.skipG 27 false rfl rfl rfl (bT hg8) rfl rfl ?_
          refine WL.skipG 27 false rfl rfl rfl (bT hg8) rfl rfl ?_
          refine WL.skipG 27 false rfl rfl rfl (bT hg8) rfl rfl ?_
          refine WL.skipG 27 false rfl rfl rfl (bT hg8) rfl rfl ?_
          refine WL.step rfl (Stp.res rfl rfl (Res.pickT rfl (bT hg8) rfl) ?_)
          refine WL.nil (Thn_n ?_)
          refine CW.condT rfl ?_
          refine CW.seq ?_
          refine CW.region ?_
          refine WL.step rfl (Stp.res rfl rfl (Res.assign rfl rfl) ?_)
          refine WL.nil (Thn_n ?_)
          refine CW.ret (Thn_r ?_)
          exact fq_tmp rfl rfl ⟨M, (hS.known (hG2.trans hG4).1), PH.le.refl _, Fresh.refl _ _, rfl, (congrArg Value.bool (decide_eq_false (by intro e; subst e; exact absurd rfl (by assumption))).symm)⟩
        · refine WL.stepG 27 false rfl rfl rfl (bF hg8) (Stp.res rfl rfl (Res.fieldA rfl rfl underlying32 rfl (show SZ Tryz.prog _ 1 from sz24) (by decide)) ?_)
          refine WL.stepG 27 false rfl rfl rfl (bF hg8) (Stp.res rfl rfl (Res.load1 (v := .slice (la1) (t.subs.length) (lc1)) rfl rfl underlying24 rfl (hS.cell (PH.cell_of (hbb2_0_2.mono hG4.1) rfl))) ?_)
          refine WL.stepG 27 false rfl rfl rfl (bF hg8) (Stp.res rfl rfl (Res.len rfl rfl rfl rfl underlying24) ?_)
          refine WL.stepG 27 false rfl rfl rfl (bF hg8) (Stp.res rfl rfl (Res.fieldA rfl rfl underlying32 rfl (show SZ Tryz.prog _ 1 from sz24) (by decide)) ?_)
          refine WL.stepG 27 false rfl rfl rfl (bF hg8) (Stp.res rfl rfl (Res.load1 (v := .slice (la2) (u.subs.length) (lc2)) rfl rfl underlying24 rfl (hS.cell (PH.cell_of hbb3_2_4 rfl))) ?_)
          refine WL.stepG 27 false rfl rfl rfl (bF hg8) (Stp.res rfl rfl (Res.len rfl rfl rfl rfl underlying24) ?_)
          refine WL.stepG 27 false rfl rfl rfl (bF hg8) (Stp.res rfl rfl (Res.neq rfl rfl rfl) ?_)
          refine WL.step rfl (Stp.res rfl rfl (Res.pickF rfl (bF hg8) rfl) ?_)
          refine WL.nil (Thn_n ?_)
          refine CW.ite rfl (fun hc9 => ?_) (fun hc9 => ?_)
          · refine CW.seq ?_
            refine CW.region ?_
            refine WL.step rfl (Stp.res rfl rfl (Res.assign rfl rfl) ?_)
            refine WL.nil (Thn_n ?_)
            refine CW.ret (Thn_r ?_)
            exact fq_tmp rfl rfl ⟨M, (hS.known (hG2.trans hG4).1), PH.le.refl _, Fresh.refl _ _, rfl, (congrArg Value.bool (decide_eq_false (by intro e; subst e; exact absurd rfl (by assumption))).symm)⟩
          · refine CW.skip (Thn_n ?_)
            refine CW.seq ?_
            refine CW.seq ?_
            refine CW.region ?_
            refine WL.step rfl (Stp.res rfl rfl (Res.assign rfl rfl) ?_)
            refine WL.nil (Thn_n ?_)
            refine CW.block ?_
            refine CW.loop (σ := Nat) (fun i => [(2, .pointer (some ⟨b2_0, 0, none⟩)), (3, .pointer (some ⟨b3_2, 0, none⟩)), (5, .int .i64 ((i : Nat) : Int))])
              (fun i w' => i ≤ t.subs.length ∧ (∀ j, j < i → t.subs.getD j T0 = u.subs.getD j T0) ∧ St w0 w' M4 ([])) (fun i => t.subs.length - i) 0 ⟨rfl, rfl, rfl, trivial⟩ ⟨by omega, fun j hj => by omega, hS⟩ ?_
            rintro i w ⟨hi, hall, hS⟩
            refine CW.seq ?_
            refine CW.seq ?_
            refine CW.region ?_
            refine WL.step rfl (Stp.res rfl rfl (Res.move rfl rfl) ?_)
            refine WL.step rfl (Stp.res rfl rfl (Res.fieldA rfl rfl underlying32 rfl (show SZ Tryz.prog _ 1 from sz24) (by decide)) ?_)
            refine WL.step rfl (Stp.res rfl rfl (Res.load1 (v := .slice (la1) (t.subs.length) (lc1)) rfl rfl underlying24 rfl (hS.cell (PH.cell_of (hbb2_0_2.mono hG4.1) rfl))) ?_)
            refine WL.step rfl (Stp.res rfl rfl (Res.len rfl rfl rfl rfl underlying24) ?_)
            refine WL.step rfl (Stp.res rfl rfl (Res.lss rfl rfl rfl) ?_)
            refine WL.nil (Thn_n ?_)
            refine CW.ite rfl (fun hc10 => ?_) (fun hc10 => ?_)
            · refine CW.skip (Thn_n ?_)
              refine CW.seq ?_
              refine CW.block ?_
              refine CW.seq ?_
              have hS := hS.drew
              refine CW.tail 10 mixed (by kernel_rfl) ?_
              refine SL.step rfl rfl rfl (Res.fieldA rfl rfl underlying32 rfl (show SZ Tryz.prog _ 1 from sz24) (by decide)) ?_
              refine SL.step rfl rfl rfl (Res.load1 (v := .slice (la1) (t.subs.length) (lc1)) rfl rfl underlying24 rfl (hS.cell (PH.cell_of (hbb2_0_2.mono hG4.1) rfl))) ?_
              refine SL.step rfl rfl rfl (Res.move rfl rfl) ?_
              obtain ⟨be11, oe11, dae11, dce11, sae11, sce11, eae11, hce11, hde11, hse11⟩ := Ts2.get (j := i) hs1 (by omega)
              have hne11 := hse11.len
              refine SL.step rfl rfl rfl (Res.idxT 5 (k := i) rfl rfl eae11 rfl underlying24 sz32 (Int.toNat_natCast _) (by omega)) ?_
              refine SL.step rfl rfl rfl (Res.loadN (r := (TV ((t.subs.getD i T0)) dae11 dce11 sae11 sce11).toList) rfl rfl underlying32 rfl sz32 rfl (fun j u hu => hS.cell (PH.cell_mono (hG2.trans hG4).1 (hce11 j u hu)))) ?_
              refine SL.step rfl rfl rfl (Res.fieldA rfl rfl underlying32 rfl (show SZ Tryz.prog _ 1 from sz24) (by decide)) ?_
              refine SL.step rfl rfl rfl (Res.load1 (v := .slice (la2) (u.subs.length) (lc2)) rfl rfl underlying24 rfl (hS.cell (PH.cell_of hbb3_2_4 rfl))) ?_
              refine SL.step rfl rfl rfl (Res.move rfl rfl) ?_
              obtain ⟨be12, oe12, dae12, dce12, sae12, sce12, eae12, hce12, hde12, hse12⟩ := Ts2.get (j := i) hs2 (by omega)
              have hne12 := hse12.len
              refine SL.step rfl rfl rfl (Res.idxT 5 (k := i) rfl rfl eae12 rfl underlying24 sz32 (Int.toNat_natCast _) (by omega)) ?_
              refine SL.step rfl rfl rfl (Res.loadN (r := (TV ((u.subs.getD i T0)) dae12 dce12 sae12 sce12).toList) rfl rfl underlying32 rfl sz32 rfl (fun j u hu => hS.cell (PH.cell_mono (hG2.trans hG4).1 (hce12 j u hu)))) ?_
              refine SL.nil ?_
              refine WL.step rfl (Stp.callG (args := [.agg (TV ((t.subs.getD i T0)) dae11 dce11 sae11 sce11), .agg (TV ((u.subs.getD i T0)) dae12 dce12 sae12 sce12)]) rfl rfl rfl cal61 rfl rfl hS (ih ((t.subs.getD i T0)) ((u.subs.getD i T0)) (by first | exact size_at (by omega) | (apply size_at; omega)) _ _ _ _ _ _ _ _ _ _ hS.on (hde11.mono (hG2.trans hG4).1) (hse11.mono (hG2.trans hG4).1) (hde12.mono (hG2.trans hG4).1) (hse12.mono (hG2.trans hG4).1)) ?_)
              rintro _ w _ hS _ ⟨rfl, rfl⟩
              refine WL.step rfl (Stp.res rfl rfl (Res.notP rfl rfl rfl) ?_)
              refine WL.nil (Thn_n ?_)
              refine CW.ite rfl (fun hc13 => ?_) (fun hc13 => ?_)
              · refine CW.seq ?_
                refine CW.region ?_
                refine WL.step rfl (Stp.res rfl rfl (Res.assign rfl rfl) ?_)
                refine WL.nil (Thn_n ?_)
                refine CW.ret (Blk_r (Thn_r (Thn_r (Blk_r (Thn_r ?_)))))
                exact fq_tmp rfl rfl ⟨M, (hS.known (hG2.trans hG4).1), PH.le.refl _, Fresh.refl _ _, rfl, (congrArg Value.bool (decide_eq_false (by intro e; subst e; exact absurd rfl (by assumption))).symm)⟩
              · have heq := Decidable.not_not.1 hc13
                refine CW.skip (Blk_n (Thn_n ?_))
                refine CW.region ?_
                refine WL.step rfl (Stp.res rfl rfl (Res.move rfl rfl) ?_)
                refine WL.step rfl (Stp.res rfl rfl (Res.cast (Res.add rfl rfl rfl (by omega)) (show _ = (.int .i64 ((i + 1 : Nat) : Int) : Value) from congrArg (Value.int .i64) (by omega))) ?_)
                refine WL.step rfl (Stp.res rfl rfl (Res.assign rfl rfl) ?_)
                refine WL.nil (Thn_n ?_)
                exact ⟨i + 1, ⟨(rfl), (rfl), (by first | rfl | exact intc (by omega)), trivial⟩, ⟨by omega, (fun j hj => by
                    by_cases e : j = i
                    · rw [e]; exact heq
                    · exact hall j (by omega)), hS⟩, by omega⟩
            · refine CW.exit (Thn_x (Thn_x (Blk_x (Thn_n ?_))))
              refine CW.seq ?_
              refine CW.region ?_
              refine WL.step rfl (Stp.res rfl rfl (Res.assign rfl rfl) ?_)
              refine WL.nil (Thn_n ?_)
              refine CW.ret ?_
              exact fq_tmp rfl rfl ⟨M, (hS.known (hG2.trans hG4).1), PH.le.refl _, Fresh.refl _ _, rfl, (congrArg Value.bool (decide_eq_true (T.eq_of (by omega) (Decidable.not_not.1 (by assumption)) (Decidable.not_not.1 (by assumption)) (by omega) (by omega) fun j hj => hall j (by omega))).symm)⟩
theorem rsame_ok (t u : T) : SameC 61 t u := indS (p := fun t => ∀ u, SameC 61 t u) (fun t ih u => rsame_step t u fun t' u' h => ih t' h u') t u
end Go.Proofs.YtcmgimicdcchlaaGreatDoor
set_option linter.unusedSimpArgs false
set_option linter.unusedVariables false
set_option maxRecDepth 20000
namespace Go.Proofs.YtcmgimicdcchlaaGreatDoor
open Go.Proofs.Tryz
open Go Go.E Go.Trm
theorem cal58 : Callable Tryz.prog 58 := ⟨Tryz.f58, func58, rfl, by kernel_rfl⟩
theorem cal64 : Callable Tryz.prog 64 := ⟨Tryz.f64, func64, rfl, by kernel_rfl⟩
theorem thas_ok (t : T) (l : List T) (ka : Option Addr) (kc : Nat) (da1 : Option Addr) (dc1 : Nat) (la1 : Option Addr) (lc1 : Nat) (w0 : World) (M : PH) (hM : On M w0) (hk : Ts M (.slice ka l.length kc) l) (hd1 : Bs M (.slice da1 t.data.length dc1) t.data) (hs1 : Ts M (.slice la1 t.subs.length lc1) t.subs) : Ok Tryz.prog 58 #[.slice ka l.length kc, .agg (TV t da1 dc1 la1 lc1)] w0 M (fun M' r => M = M' ∧ r = .bool (decide (t ∈ l))) := by
  have hS := hM.st
  have hbl := hk.len
  refine enterB (l := [.slice (ka) (l.length) (kc), .agg (TV (t) da1 dc1 la1 lc1)]) 17 func58 rfl ntmps58 rfl ?_
  refine CW.seq ?_
  refine CW.region ?_
  refine WL.step rfl (Stp.boxA (cs := TV (t) da1 dc1 la1 lc1) rfl rfl rfl rfl hS ?_)
  intro b3_0 w hbb3_0 hS hkp hnw
  obtain ⟨M2, hG2, hbb3_0_2, hS⟩ : ∃ Mx, Grow w0.heap.size M Mx ∧ Kb Mx b3_0 (.cells (TV (t) da1 dc1 la1 lc1) 35 (0, 0)) ∧ St w0 w Mx ([]) := by
    have hF := hS.freezeG (i := 0) rfl hbb3_0
    exact ⟨_, hF.2, PH.add_self _ _ _, hF.1⟩
  refine WL.step rfl (Stp.res rfl rfl (Res.assign rfl rfl) ?_)
  refine WL.nil (Thn_n ?_)
  refine CW.seq ?_
  refine CW.seq ?_
  refine CW.region ?_
  refine WL.step rfl (Stp.res rfl rfl (Res.move rfl rfl) ?_)
  refine WL.step rfl (Stp.res rfl rfl (Res.len rfl rfl rfl rfl underlying89) ?_)
  refine WL.step rfl (Stp.res rfl rfl (Res.move rfl rfl) ?_)
  refine WL.nil (Thn_n ?_)
  refine CW.block ?_
  refine CW.loop (σ := Nat) (fun i => [(3, .pointer (some ⟨b3_0, 0, none⟩)), (7, .slice (ka) (l.length) (kc)), (8, .int .i64 ((l.length : Nat) : Int)), (9, .int .i64 ((i : Nat) : Int))])
    (fun i w' => i ≤ l.length ∧ (∀ j, j < i → ¬ l.getD j T0 = t) ∧ St w0 w' M2 ([])) (fun i => l.length - i) 0 ⟨rfl, rfl, rfl, rfl, trivial⟩ ⟨by omega, fun j hj => by omega, hS⟩ ?_
  rintro i w ⟨hi, hall, hS⟩
  refine CW.seq ?_
  refine CW.region ?_
  refine WL.step rfl (Stp.res rfl rfl (Res.lss rfl rfl rfl) ?_)
  refine WL.nil (Thn_n ?_)
  refine CW.seq ?_
  refine CW.ite rfl (fun hc3 => ?_) (fun hc3 => ?_)
  · refine CW.skip (Thn_n ?_)
    refine CW.seq ?_
    refine CW.block ?_
    refine CW.seq ?_
    refine CW.region ?_
    obtain ⟨be4, oe4, dae4, dce4, sae4, sce4, eae4, hce4, hde4, hse4⟩ := Ts2.get (j := i) hk (by omega)
    have hne4 := hse4.len
    refine WL.step rfl (Stp.res rfl rfl (Res.idxT 5 (k := i) rfl rfl eae4 rfl underlying89 sz35 (Int.toNat_natCast _) (by omega)) ?_)
    refine WL.step rfl (Stp.res rfl rfl (Res.loadN (r := (TV ((l.getD i T0)) dae4 dce4 sae4 sce4).toList) rfl rfl underlying35 rfl sz35 rfl (fun j u hu => hS.cell (PH.cell_mono hG2.1 (hce4 j u hu)))) ?_)
    refine WL.step rfl (Stp.alloc (cs := #[.int .i64 ((0 : Nat) : Int), .slice (none) (0) (0), Go.E.str ([]), .int .i64 ((0 : Nat) : Int), .slice (none) (0) (0)]) rfl zt35 rfl rfl rfl hS ?_)
    intro b6_4 w hbb6_4 hS hkp hnw
    refine WL.step rfl (Stp.storeAll 0 rfl rfl rfl (sz35) (Tm.of (hde4.mono hG2.1) (hse4.mono hG2.1)).one rfl hS rfl rfl ?_)
    intro w hS hpt
    change St w0 _ M2 ([(b6_4, .cells (TV ((l.getD i T0)) dae4 dce4 sae4 sce4) 35 (0, 0))]) at hS
    obtain ⟨M6, hG6, hbb6_4_6, hS⟩ : ∃ Mx, Grow w0.heap.size M2 Mx ∧ Kb Mx b6_4 (.cells (TV ((l.getD i T0)) dae4 dce4 sae4 sce4) 35 (0, 0)) ∧ St w0 w Mx ([]) := by
      have hF := hS.freezeG (i := 0) rfl hbb6_4
      exact ⟨_, hF.2, PH.add_self _ _ _, hF.1⟩
    refine WL.nil (Thn_n ?_)
    refine CW.seq ?_
    refine CW.region ?_
    refine WL.step rfl (Stp.res rfl rfl (Res.loadAll (cs := TV ((l.getD i T0)) dae4 dce4 sae4 sce4) rfl rfl underlying35 rfl sz35 (hS.on _ _ hbb6_4_6)) ?_)
    refine WL.step rfl (Stp.res rfl rfl (Res.loadAll (cs := TV (t) da1 dc1 la1 lc1) rfl rfl underlying35 rfl sz35 (hS.on _ _ (hbb3_0_2.mono hG6.1))) ?_)
    refine WL.step rfl (Stp.callG (args := [.agg (TV ((l.getD i T0)) dae4 dce4 sae4 sce4), .agg (TV (t) da1 dc1 la1 lc1)]) rfl rfl rfl cal69 rfl rfl hS (tsame_ok ((l.getD i T0)) (t) _ _ _ _ _ _ _ _ _ _ hS.on (hde4.mono (hG2.trans hG6).1) (hse4.mono (hG2.trans hG6).1) (hd1.mono (hG2.trans hG6).1) (hs1.mono (hG2.trans hG6).1)) ?_)
    rintro _ w _ hS _ ⟨rfl, rfl⟩
    refine WL.nil (Thn_n ?_)
    refine CW.ite rfl (fun hc7 => ?_) (fun hc7 => ?_)
    · have he := hc7
      refine CW.seq ?_
      refine CW.region ?_
      refine WL.step rfl (Stp.res rfl rfl (Res.assign rfl rfl) ?_)
      refine WL.nil (Thn_n ?_)
      refine CW.ret (Blk_r (Thn_r (Thn_r (Blk_r (Thn_r ?_)))))
      exact fq_tmp rfl rfl ⟨M, (hS.known (hG2.trans hG6).1), PH.le.refl _, Fresh.refl _ _, rfl, (congrArg Value.bool (decide_eq_true (he ▸ getD_mem (by omega))).symm)⟩
    · have hne := hc7
      refine CW.skip (Blk_n (Thn_n ?_))
      refine CW.region ?_
      refine WL.step rfl (Stp.res rfl rfl (Res.cast (Res.add rfl rfl rfl (by omega)) (show _ = (.int .i64 ((i + 1 : Nat) : Int) : Value) from congrArg (Value.int .i64) (by omega))) ?_)
      refine WL.step rfl (Stp.res rfl rfl (Res.move rfl rfl) ?_)
      refine WL.nil (Thn_n ?_)
      exact ⟨i + 1, ⟨(rfl), (rfl), (rfl), (by first | rfl | exact intc (by omega)), trivial⟩, ⟨by omega, (fun j hj => by
          by_cases e : j = i
          · rw [e]; exact hne
          · exact hall j (by omega)), hS.known hG6.1⟩, by omega⟩
  · refine CW.exit (Thn_x (Thn_x (Blk_x (Thn_n ?_))))
    refine CW.seq ?_
    refine CW.region ?_
    refine WL.step rfl (Stp.res rfl rfl (Res.assign rfl rfl) ?_)
    refine WL.nil (Thn_n ?_)
    refine CW.ret ?_
    exact fq_tmp rfl rfl ⟨M, (hS.known hG2.1), PH.le.refl _, Fresh.refl _ _, rfl, (congrArg Value.bool (decide_eq_false (fun hm => by
      obtain ⟨j, hj, e⟩ := mem_getD hm
      exact hall j (by omega) e)).symm)⟩
theorem tmakes_step (l : List T) (t : T) (ih : ∀ t', size t' < size t → CanC 64 l t') : CanC 64 l t := by
  intro ka kc da1 dc1 la1 lc1 w0 M hM hk hd1 hs1
  have hS := hM.st
  have hbl := hk.len
  have hbl2 := hs1.len
  refine enterB (l := [.slice (ka) (l.length) (kc), .agg (TV (t) da1 dc1 la1 lc1)]) 30 func64 rfl ntmps64 rfl ?_
  refine CW.seq ?_
  refine CW.region ?_
  refine WL.step rfl (Stp.boxA (cs := TV (t) da1 dc1 la1 lc1) rfl rfl rfl rfl hS ?_)
  intro b3_0 w hbb3_0 hS hkp hnw
  obtain ⟨M2, hG2, hbb3_0_2, hS⟩ : ∃ Mx, Grow w0.heap.size M Mx ∧ Kb Mx b3_0 (.cells (TV (t) da1 dc1 la1 lc1) 35 (0, 0)) ∧ St w0 w Mx ([]) := by
    have hF := hS.freezeG (i := 0) rfl hbb3_0
    exact ⟨_, hF.2, PH.add_self _ _ _, hF.1⟩
  refine WL.step rfl (Stp.res rfl rfl (Res.assign rfl rfl) ?_)
  refine WL.nil (Thn_n ?_)
  refine CW.seq ?_
  refine CW.block ?_
  refine CW.seq ?_
  refine CW.seq ?_
  refine CW.region ?_
  refine WL.step rfl (Stp.res rfl rfl (Res.fieldA rfl rfl underlying35 rfl (show SZ Tryz.prog _ 1 from sz3) (by decide)) ?_)
  refine WL.step rfl (Stp.res rfl rfl (Res.load1 (v := .int .i64 (t.kind)) rfl rfl underlying3 rfl (hS.cell (PH.cell_of hbb3_0_2 rfl))) ?_)
  refine WL.step rfl (Stp.res rfl rfl (Res.eql rfl rfl rfl) ?_)
  refine WL.step rfl (Stp.res rfl rfl (Res.assign rfl rfl) ?_)
  refine WL.nil (Thn_n ?_)
  refine CW.ite rfl (fun hc3 => ?_) (fun hc3 => ?_)
  · refine CW.skip (Thn_n ?_)
    refine CW.condT (bT hc3) ?_
    refine CW.seq ?_
    refine CW.region ?_
    refine WL.step rfl (Stp.res rfl rfl (Res.assign rfl rfl) ?_)
    refine WL.nil (Thn_n ?_)
    refine CW.ret (Blk_r (Thn_r ?_))
    exact fq_tmp rfl rfl ⟨M, (hS.known hG2.1), PH.le.refl _, Fresh.refl _ _, rfl, (congrArg Value.bool (decide_eq_true (can_iff.2 (.inl (by omega)))).symm)⟩
  · refine CW.region ?_
    refine WL.step rfl (Stp.res rfl rfl (Res.move rfl rfl) ?_)
    refine WL.step rfl (Stp.res rfl rfl (Res.loadAll (cs := TV (t) da1 dc1 la1 lc1) rfl rfl underlying35 rfl sz35 (hS.on _ _ hbb3_0_2)) ?_)
    refine WL.step rfl (Stp.callG (args := [.slice (ka) (l.length) (kc), .agg (TV (t) da1 dc1 la1 lc1)]) rfl rfl rfl cal58 rfl rfl hS (thas_ok (t) (l) _ _ _ _ _ _ _ _ hS.on (hk.mono hG2.1) (hd1.mono hG2.1) (hs1.mono hG2.1)) ?_)
    rintro _ w _ hS _ ⟨rfl, rfl⟩
    refine WL.step rfl (Stp.res rfl rfl (Res.assign rfl rfl) ?_)
    refine WL.nil (Thn_n ?_)
    refine CW.ite rfl (fun hc4 => ?_) (fun hc4 => ?_)
    · refine CW.seq ?_
      refine CW.region ?_
      refine WL.step rfl (Stp.res rfl rfl (Res.assign rfl rfl) ?_)
      refine WL.nil (Thn_n ?_)
      refine CW.ret (Blk_r (Thn_r ?_))
      exact fq_tmp rfl rfl ⟨M, (hS.known hG2.1), PH.le.refl _, Fresh.refl _ _, rfl, (congrArg Value.bool (decide_eq_true (can_iff.2 (.inr (.inl hc4)))).symm)⟩
    · refine CW.seq ?_
      refine CW.region ?_
      refine WL.step rfl (Stp.res rfl rfl (Res.fieldA rfl rfl underlying35 rfl (show SZ Tryz.prog _ 1 from sz3) (by decide)) ?_)
      refine WL.step rfl (Stp.res rfl rfl (Res.load1 (v := .int .i64 (t.kind)) rfl rfl underlying3 rfl (hS.cell (PH.cell_of hbb3_0_2 rfl))) ?_)
      refine WL.step rfl (Stp.res rfl rfl (Res.eql rfl rfl rfl) ?_)
      refine WL.step rfl (Stp.res rfl rfl (Res.assign rfl rfl) ?_)
      refine WL.nil (Thn_n ?_)
      refine CW.ite rfl (fun hc5 => ?_) (fun hc5 => ?_)
      · refine CW.seq ?_
        refine CW.region ?_
        refine WL.step rfl (Stp.res rfl rfl (Res.assign rfl rfl) ?_)
        refine WL.nil (Thn_n ?_)
        refine CW.ret (Blk_r (Thn_r ?_))
        exact fq_tmp rfl rfl ⟨M, (hS.known hG2.1), PH.le.refl _, Fresh.refl _ _, rfl, (congrArg Value.bool (decide_eq_false (can_no2 hc4 (by omega))).symm)⟩
      · refine CW.skip (Blk_n (Thn_n ?_))
        refine CW.seq ?_
        refine CW.seq ?_
        refine CW.region ?_
        refine WL.step rfl (Stp.res rfl rfl (Res.fieldA rfl rfl underlying35 rfl (show SZ Tryz.prog _ 1 from sz22) (by decide)) ?_)
        refine WL.step rfl (Stp.res rfl rfl (Res.load1 (v := .slice (la1) (t.subs.length) (lc1)) rfl rfl underlying22 rfl (hS.cell (PH.cell_of hbb3_0_2 rfl))) ?_)
        refine WL.step rfl (Stp.res rfl rfl (Res.len rfl rfl rfl rfl underlying22) ?_)
        refine WL.step rfl (Stp.res rfl rfl (Res.move rfl rfl) ?_)
        refine WL.nil (Thn_n ?_)
        refine CW.block ?_
        refine CW.loop (σ := Nat) (fun i => [(0, .slice (ka) (l.length) (kc)), (19, .slice (la1) (t.subs.length) (lc1)), (20, .int .i64 ((t.subs.length : Nat) : Int)), (21, .int .i64 ((i : Nat) : Int))])
          (fun i w' => i ≤ t.subs.length ∧ (∀ j, j < i → KCan l (t.subs.getD j T0)) ∧ St w0 w' M2 ([])) (fun i => t.subs.length - i) 0 ⟨rfl, rfl, rfl, rfl, trivial⟩ ⟨by omega, fun j hj => by omega, hS⟩ ?_
        rintro i w ⟨hi, hall, hS⟩
        refine CW.seq ?_
        refine CW.region ?_
        refine WL.step rfl (Stp.res rfl rfl (Res.lss rfl rfl rfl) ?_)
        refine WL.nil (Thn_n ?_)
        refine CW.seq ?_
        refine CW.ite rfl (fun hc6 => ?_) (fun hc6 => ?_)
        · refine CW.skip (Thn_n ?_)
          refine CW.seq ?_
          refine CW.block ?_
          refine CW.seq ?_
          refine CW.region ?_
          obtain ⟨be7, oe7, dae7, dce7, sae7, sce7, eae7, hce7, hde7, hse7⟩ := Ts2.get (j := i) hs1 (by omega)
          have hne7 := hse7.len
          refine WL.step rfl (Stp.res rfl rfl (Res.idxT 5 (k := i) rfl rfl eae7 rfl underlying22 sz35 (Int.toNat_natCast _) (by omega)) ?_)
          refine WL.step rfl (Stp.res rfl rfl (Res.loadN (r := (TV ((t.subs.getD i T0)) dae7 dce7 sae7 sce7).toList) rfl rfl underlying35 rfl sz35 rfl (fun j u hu => hS.cell (PH.cell_mono hG2.1 (hce7 j u hu)))) ?_)
          refine WL.step rfl (Stp.alloc (cs := #[.int .i64 ((0 : Nat) : Int), .slice (none) (0) (0), Go.E.str ([]), .int .i64 ((0 : Nat) : Int), .slice (none) (0) (0)]) rfl zt35 rfl rfl rfl hS ?_)
          intro b6_7 w hbb6_7 hS hkp hnw
          refine WL.step rfl (Stp.storeAll 0 rfl rfl rfl (sz35) (Tm.of (hde7.mono hG2.1) (hse7.mono hG2.1)).one rfl hS rfl rfl ?_)
          intro w hS hpt
          change St w0 _ M2 ([(b6_7, .cells (TV ((t.subs.getD i T0)) dae7 dce7 sae7 sce7) 35 (0, 0))]) at hS
          obtain ⟨M9, hG9, hbb6_7_9, hS⟩ : ∃ Mx, Grow w0.heap.size M2 Mx ∧ Kb Mx b6_7 (.cells (TV ((t.subs.getD i T0)) dae7 dce7 sae7 sce7) 35 (0, 0)) ∧ St w0 w Mx ([]) := by
            have hF := hS.freezeG (i := 0) rfl hbb6_7
            exact ⟨_, hF.2, PH.add_self _ _ _, hF.1⟩
          refine WL.nil (Thn_n ?_)
          refine CW.seq ?_
          refine CW.region ?_
          refine WL.step rfl (Stp.res rfl rfl (Res.move rfl rfl) ?_)
          refine WL.step rfl (Stp.res rfl rfl (Res.loadAll (cs := TV ((t.subs.getD i T0)) dae7 dce7 sae7 sce7) rfl rfl underlying35 rfl sz35 (hS.on _ _ hbb6_7_9)) ?_)
          refine WL.step rfl (Stp.callG (args := [.slice (ka) (l.length) (kc), .agg (TV ((t.subs.getD i T0)) dae7 dce7 sae7 sce7)]) rfl rfl rfl cal64 rfl rfl hS (ih ((t.subs.getD i T0)) (by first | exact size_at (by omega) | (apply size_at; omega)) _ _ _ _ _ _ _ _ hS.on (hk.mono (hG2.trans hG9).1) (hde7.mono (hG2.trans hG9).1) (hse7.mono (hG2.trans hG9).1)) ?_)
          rintro _ w _ hS _ ⟨rfl, rfl⟩
          refine WL.step rfl (Stp.res rfl rfl (Res.notP rfl rfl rfl) ?_)
          refine WL.nil (Thn_n ?_)
          refine CW.ite rfl (fun hc10 => ?_) (fun hc10 => ?_)
          · have hne := hc10
            refine CW.seq ?_
            refine CW.region ?_
            refine WL.step rfl (Stp.res rfl rfl (Res.assign rfl rfl) ?_)
            refine WL.nil (Thn_n ?_)
            refine CW.ret (Blk_r (Thn_r (Thn_r (Blk_r (Thn_r ?_)))))
            exact fq_tmp rfl rfl ⟨M, (hS.known (hG2.trans hG9).1), PH.le.refl _, Fresh.refl _ _, rfl, (congrArg Value.bool (decide_eq_false (can_no (by omega) hc4 (by omega) hne)).symm)⟩
          · have heq := Decidable.not_not.1 hc10
            refine CW.skip (Blk_n (Thn_n ?_))
            refine CW.region ?_
            refine WL.step rfl (Stp.res rfl rfl (Res.cast (Res.add rfl rfl rfl (by omega)) (show _ = (.int .i64 ((i + 1 : Nat) : Int) : Value) from congrArg (Value.int .i64) (by omega))) ?_)
            refine WL.step rfl (Stp.res rfl rfl (Res.move rfl rfl) ?_)
            refine WL.nil (Thn_n ?_)
            exact ⟨i + 1, ⟨(rfl), (rfl), (rfl), (by first | rfl | exact intc (by omega)), trivial⟩, ⟨by omega, (fun j hj => by
                by_cases e : j = i
                · rw [e]; exact heq
                · exact hall j (by omega)), hS.known hG9.1⟩, by omega⟩
        · refine CW.exit (Thn_x (Thn_x (Blk_x (Thn_n ?_))))
          refine CW.seq ?_
          refine CW.region ?_
          refine WL.step rfl (Stp.res rfl rfl (Res.assign rfl rfl) ?_)
          refine WL.nil (Thn_n ?_)
          refine CW.ret ?_
          exact fq_tmp rfl rfl ⟨M, (hS.known hG2.1), PH.le.refl _, Fresh.refl _ _, rfl, (congrArg Value.bool (decide_eq_true (can_yes (by omega) (fun j hj => hall j (by omega)))).symm)⟩
theorem tmakes_ok (l : List T) (t : T) : CanC 64 l t := indS (p := fun t => CanC 64 l t) (fun t ih => tmakes_step l t ih) t
end Go.Proofs.YtcmgimicdcchlaaGreatDoor
set_option linter.unusedSimpArgs false
set_option linter.unusedVariables false
set_option maxRecDepth 20000
namespace Go.Proofs.YtcmgimicdcchlaaGreatDoor
open Go.Proofs.Tryz
open Go Go.E Go.Trm
theorem cal94 : Callable Tryz.prog 94 := ⟨Tryz.f94, func94, rfl, by kernel_rfl⟩
theorem zt32 : (Tryz.prog.info? 32).map (·.zero) = some (some (.agg #[.int .i64 ((0 : Nat) : Int), .slice (none) (0) (0), Go.E.str ([]), .int .i64 ((0 : Nat) : Int), .slice (none) (0) (0)])) := by kernel_rfl
theorem leads_ok (N : PH) (t : T) (l : List T) (ka : Option Addr) (kc : Nat) (da1 : Option Addr) (dc1 : Nat) (la1 : Option Addr) (lc1 : Nat) (w0 : World) (M : PH) (hM : On M w0) (hN : N.le M) (hk : Ts M (.slice ka l.length kc) l) (hd1 : Bs N (.slice da1 t.data.length dc1) t.data) (hs1 : Ts N (.slice la1 t.subs.length lc1) t.subs) (h4 : t.kind = 4 → t.subs.length = 2) : Ok Tryz.prog 94 #[.slice ka l.length kc, .agg (TV t da1 dc1 la1 lc1)] w0 M (fun M' r => M = M' ∧ Ts N r (leads l t)) := by
  have hS := hM.st
  have hbl := hs1.len
  refine enterB (l := [.slice (ka) (l.length) (kc), .agg (TV (t) da1 dc1 la1 lc1)]) 24 func94 rfl ntmps94 rfl ?_
  refine CW.seq ?_
  refine CW.region ?_
  refine WL.step rfl (Stp.boxA (cs := TV (t) da1 dc1 la1 lc1) rfl rfl rfl rfl hS ?_)
  intro b3_0 w hbb3_0 hS hkp hnw
  refine WL.step rfl (Stp.res rfl rfl (Res.assign rfl rfl) ?_)
  refine WL.nil (Thn_n ?_)
  refine CW.seq ?_
  refine CW.seq ?_
  refine CW.region ?_
  refine WL.step rfl (Stp.res rfl rfl (Res.fieldA rfl rfl underlying35 rfl (show SZ Tryz.prog _ 1 from sz3) (by decide)) ?_)
  refine WL.step rfl (Stp.res rfl rfl (Res.load1 (v := .int .i64 (t.kind)) rfl rfl underlying3 rfl (cell_in (hS.get (i := 0) rfl) rfl)) ?_)
  refine WL.nil (Thn_n ?_)
  refine CW.block ?_
  refine CW.seq ?_
  refine CW.block ?_
  refine CW.seq ?_
  refine CW.block ?_
  refine CW.seq ?_
  refine CW.seq ?_
  refine CW.seq ?_
  refine CW.region ?_
  refine WL.step rfl (Stp.res rfl rfl (Res.eql rfl rfl rfl) ?_)
  refine WL.step rfl (Stp.res rfl rfl (Res.assign rfl rfl) ?_)
  refine WL.nil (Thn_n ?_)
  refine CW.ite rfl (fun hc2 => ?_) (fun hc2 => ?_)
  · have h42 := h4 (by omega)
    refine CW.exit (Thn_x (Thn_x (Blk_x (Thn_n ?_))))
    refine CW.seq ?_
    refine CW.seq ?_
    refine CW.region ?_
    refine WL.step rfl (Stp.res rfl rfl (Res.move rfl rfl) ?_)
    refine WL.step rfl (Stp.res rfl rfl (Res.fieldA rfl rfl underlying35 rfl (show SZ Tryz.prog _ 1 from sz22) (by decide)) ?_)
    refine WL.step rfl (Stp.res rfl rfl (Res.load1 (v := .slice (la1) (t.subs.length) (lc1)) rfl rfl underlying22 rfl (cell_in (hS.get (i := 0) rfl) rfl)) ?_)
    obtain ⟨be3, oe3, dae3, dce3, sae3, sce3, eae3, hce3, hde3, hse3⟩ := Ts2.get (j := 0) hs1 (by omega)
    have hne3 := hse3.len
    refine WL.step rfl (Stp.res rfl rfl (Res.idxT 5 (k := 0) rfl rfl eae3 rfl underlying22 sz35 (show (0 : Int).toNat = 0 from rfl) (by omega)) ?_)
    refine WL.step rfl (Stp.res rfl rfl (Res.loadN (r := (TV ((t.subs.getD 0 T0)) dae3 dce3 sae3 sce3).toList) rfl rfl underlying35 rfl sz35 rfl (fun j u hu => hS.cell (PH.cell_mono hN (hce3 j u hu)))) ?_)
    refine WL.step rfl (Stp.callG (args := [.slice (ka) (l.length) (kc), .agg (TV ((t.subs.getD 0 T0)) dae3 dce3 sae3 sce3)]) rfl rfl rfl cal64 rfl rfl hS (tmakes_ok (l) ((t.subs.getD 0 T0)) _ _ _ _ _ _ _ _ hS.on hk (hde3.mono hN) (hse3.mono hN)) ?_)
    rintro _ w _ hS _ ⟨rfl, rfl⟩
    refine WL.step rfl (Stp.res rfl rfl (Res.notP rfl rfl rfl) ?_)
    refine WL.nil (Thn_n ?_)
    refine CW.ite rfl (fun hc4 => ?_) (fun hc4 => ?_)
    · refine CW.seq ?_
      refine CW.region ?_
      refine WL.step rfl (Stp.res rfl rfl (Res.assign rfl rfl) ?_)
      refine WL.nil (Thn_n ?_)
      refine CW.ret (Thn_r (Blk_r (Thn_r (Blk_r (Thn_r ?_)))))
      exact fq_tmp rfl rfl ⟨M, (hS.drop (i := 0) rfl hbb3_0), PH.le.refl _, Fresh.refl _ _, rfl, (by rw [leads4n (by omega) hc4]; exact Ts.nil N)⟩
    · refine CW.skip (Thn_n ?_)
      refine CW.region ?_
      refine WL.step rfl (Stp.res rfl rfl (Res.fieldA rfl rfl underlying35 rfl (show SZ Tryz.prog _ 1 from sz22) (by decide)) ?_)
      refine WL.step rfl (Stp.res rfl rfl (Res.load1 (v := .slice (la1) (t.subs.length) (lc1)) rfl rfl underlying22 rfl (cell_in (hS.get (i := 0) rfl) rfl)) ?_)
      refine WL.step rfl (Stp.res rfl rfl (Res.sliceLoN (l := 1) rfl rfl rfl underlying22 sz35 (by omega) (by omega)) ?_)
      refine WL.step rfl (Stp.res rfl rfl (Res.fieldA rfl rfl underlying35 rfl (show SZ Tryz.prog _ 1 from sz22) (by decide)) ?_)
      refine WL.step rfl (Stp.store1 0 (v := .slice (if lc1 = 1 then la1 else (la1 : Option Addr).map (·.add (1 * 5))) (t.subs.length - 1) (lc1 - 1)) rfl rfl rfl sz22 rfl rfl hS rfl (blt_lt rfl) ?_)
      intro w hS hpt
      change St w0 _ M ([(b3_0, .cells (#[.int .i64 (t.kind), .slice (da1) (t.data.length) (dc1), Go.E.str (t.name), .int .i64 (t.num), .slice (if lc1 = 1 then la1 else (la1 : Option Addr).map (·.add (1 * 5))) (t.subs.length - 1) (lc1 - 1)]) 35 (0, 0))]) at hS
      obtain ⟨M6, hG6, hbb3_0_6, hS⟩ : ∃ Mx, Grow w0.heap.size M Mx ∧ Kb Mx b3_0 (.cells (#[.int .i64 (t.kind), .slice (da1) (t.data.length) (dc1), Go.E.str (t.name), .int .i64 (t.num), .slice (if lc1 = 1 then la1 else (la1 : Option Addr).map (·.add (1 * 5))) (t.subs.length - 1) (lc1 - 1)]) 35 (0, 0)) ∧ St w0 w Mx ([]) := by
        have hF := hS.freezeG (i := 0) rfl hbb3_0
        exact ⟨_, hF.2, PH.add_self _ _ _, hF.1⟩
      refine WL.nil (Blk_n (Thn_n ?_))
      refine CW.seq ?_
      refine CW.seq ?_
      refine CW.region ?_
      refine WL.step rfl (Stp.res rfl rfl (Res.fieldA rfl rfl underlying35 rfl (show SZ Tryz.prog _ 1 from sz22) (by decide)) ?_)
      refine WL.step rfl (Stp.res rfl rfl (Res.load1 (v := .slice (if lc1 = 1 then la1 else (la1 : Option Addr).map (·.add (1 * 5))) (t.subs.length - 1) (lc1 - 1)) rfl rfl underlying22 rfl (hS.cell (PH.cell_of hbb3_0_6 rfl))) ?_)
      refine WL.step rfl (Stp.res rfl rfl (Res.assign rfl rfl) ?_)
      refine WL.nil (Thn_n ?_)
      refine CW.ret (Thn_r (Blk_r (Thn_r ?_)))
      exact fq_tmp rfl rfl ⟨M, (hS.known hG6.1), PH.le.refl _, Fresh.refl _ _, rfl, (by rw [leads4d (by omega) (Decidable.not_not.1 hc4)]; exact hs1.drop (k := 1) (by omega))⟩
  · refine CW.skip (Thn_n ?_)
    refine CW.seq ?_
    refine CW.region ?_
    refine WL.step rfl (Stp.res rfl rfl (Res.eql rfl rfl rfl) ?_)
    refine WL.step rfl (Stp.res rfl rfl (Res.assign rfl rfl) ?_)
    refine WL.nil (Thn_n ?_)
    refine CW.ite rfl (fun hc7 => ?_) (fun hc7 => ?_)
    · refine CW.exit (Thn_x (Blk_y rfl (Thn_x (Blk_x (Thn_n ?_)))))
      refine CW.seq ?_
      refine CW.seq ?_
      refine CW.region ?_
      refine WL.step rfl (Stp.res rfl rfl (Res.fieldA rfl rfl underlying35 rfl (show SZ Tryz.prog _ 1 from sz22) (by decide)) ?_)
      refine WL.step rfl (Stp.res rfl rfl (Res.load1 (v := .slice (la1) (t.subs.length) (lc1)) rfl rfl underlying22 rfl (cell_in (hS.get (i := 0) rfl) rfl)) ?_)
      refine WL.step rfl (Stp.res rfl rfl (Res.assign rfl rfl) ?_)
      refine WL.nil (Thn_n ?_)
      refine CW.ret (Thn_r (Blk_r (Thn_r ?_)))
      exact fq_tmp rfl rfl ⟨M, (hS.drop (i := 0) rfl hbb3_0), PH.le.refl _, Fresh.refl _ _, rfl, (by rw [leads3 (by omega)]; exact hs1)⟩
    · refine CW.skip (Thn_n ?_)
      refine CW.exit (Blk_y rfl (Thn_x (Blk_y rfl (Thn_x (Blk_x (Thn_n ?_))))))
      refine CW.seq ?_
      refine CW.region ?_
      refine WL.step rfl (Stp.res rfl rfl (Res.assign rfl rfl) ?_)
      refine WL.nil (Thn_n ?_)
      refine CW.ret ?_
      exact fq_tmp rfl rfl ⟨M, (hS.drop (i := 0) rfl hbb3_0), PH.le.refl _, Fresh.refl _ _, rfl, (by rw [leads0 (by omega) (by omega)]; exact Ts.nil N)⟩
theorem next_ok (N : PH) (l : List T) (ka : Option Addr) (kc : Nat) (w0 : World) (M : PH) (hM : On M w0) (hN : N.le M) (hk : Ts2 N M (.slice ka l.length kc) l) (h4 : ∀ t ∈ l, t.kind = 4 → t.subs.length = 2) : Ok Tryz.prog 59 #[.slice ka l.length kc] w0 M (fun M' r => M = M' ∧ NextR N l r) := by
  have hS := hM.st
  have hbl := hk.len
  refine enterB (l := [.slice (ka) (l.length) (kc)]) 30 func59 rfl ntmps59 rfl ?_
  refine CW.seq ?_
  refine CW.region ?_
  refine WL.step rfl (Stp.alloc (cs := #[.int .i64 ((0 : Nat) : Int), .slice (none) (0) (0), Go.E.str ([]), .int .i64 ((0 : Nat) : Int), .slice (none) (0) (0)]) rfl zt35 rfl rfl rfl hS ?_)
  intro b2_0 w hbb2_0 hS hkp hnw
  refine WL.step rfl (Stp.res rfl rfl (Res.assign rfl rfl) ?_)
  refine WL.nil (Thn_n ?_)
  refine CW.seq ?_
  refine CW.seq ?_
  refine CW.region ?_
  refine WL.step rfl (Stp.res rfl rfl (Res.move rfl rfl) ?_)
  refine WL.step rfl (Stp.res rfl rfl (Res.len rfl rfl rfl rfl underlying89) ?_)
  refine WL.step rfl (Stp.res rfl rfl (Res.move rfl rfl) ?_)
  refine WL.nil (Thn_n ?_)
  refine CW.block ?_
  refine CW.loop (σ := Nat) (fun i => [(0, .slice (ka) (l.length) (kc)), (2, .pointer (some ⟨b2_0, 0, none⟩)), (8, .slice (ka) (l.length) (kc)), (9, .int .i64 ((l.length : Nat) : Int)), (10, .int .i64 ((i : Nat) : Int))])
    (fun i w' => i ≤ l.length ∧ (∀ j, j < i → ∀ y ∈ leads l (l.getD j T0), y ∈ l) ∧ St w0 w' M ([(b2_0, .cells (#[.int .i64 ((0 : Nat) : Int), .slice (none) (0) (0), Go.E.str ([]), .int .i64 ((0 : Nat) : Int), .slice (none) (0) (0)]) 35 (0, 0))])) (fun i => l.length - i) 0 ⟨rfl, rfl, rfl, rfl, rfl, trivial⟩ ⟨by omega, fun j hj => by omega, hS⟩ ?_
  rintro i w ⟨hi, hall, hS⟩
  refine CW.seq ?_
  refine CW.region ?_
  refine WL.step rfl (Stp.res rfl rfl (Res.lss rfl rfl rfl) ?_)
  refine WL.nil (Thn_n ?_)
  refine CW.seq ?_
  refine CW.ite rfl (fun hc2 => ?_) (fun hc2 => ?_)
  · refine CW.skip (Thn_n ?_)
    refine CW.seq ?_
    refine CW.block ?_
    refine CW.seq ?_
    refine CW.region ?_
    obtain ⟨be3, oe3, dae3, dce3, sae3, sce3, eae3, hce3, hde3, hse3⟩ := Ts2.get (j := i) hk (by omega)
    have hne3 := hse3.len
    refine WL.step rfl (Stp.res rfl rfl (Res.idxT 5 (k := i) rfl rfl eae3 rfl underlying89 sz35 (Int.toNat_natCast _) (by omega)) ?_)
    refine WL.step rfl (Stp.res rfl rfl (Res.loadN (r := (TV ((l.getD i T0)) dae3 dce3 sae3 sce3).toList) rfl rfl underlying35 rfl sz35 rfl (fun j u hu => hS.cell (hce3 j u hu))) ?_)
    refine WL.step rfl (Stp.alloc (cs := #[.int .i64 ((0 : Nat) : Int), .slice (none) (0) (0), Go.E.str ([]), .int .i64 ((0 : Nat) : Int), .slice (none) (0) (0)]) rfl zt35 rfl rfl rfl hS ?_)
    intro b5_3 w hbb5_3 hS hkp hnw
    refine WL.step rfl (Stp.storeAll 0 rfl rfl rfl (sz35) (Tm.of (hde3.mono hN) (hse3.mono hN)).one rfl hS rfl rfl ?_)
    intro w hS hpt
    change St w0 _ M ([(b5_3, .cells (TV ((l.getD i T0)) dae3 dce3 sae3 sce3) 35 (0, 0)), (b2_0, .cells (#[.int .i64 ((0 : Nat) : Int), .slice (none) (0) (0), Go.E.str ([]), .int .i64 ((0 : Nat) : Int), .slice (none) (0) (0)]) 35 (0, 0))]) at hS
    obtain ⟨M5, hG5, hbb5_3_5, hS⟩ : ∃ Mx, Grow w0.heap.size M Mx ∧ Kb Mx b5_3 (.cells (TV ((l.getD i T0)) dae3 dce3 sae3 sce3) 35 (0, 0)) ∧ St w0 w Mx ([(b2_0, .cells (#[.int .i64 ((0 : Nat) : Int), .slice (none) (0) (0), Go.E.str ([]), .int .i64 ((0 : Nat) : Int), .slice (none) (0) (0)]) 35 (0, 0))]) := by
      have hF := hS.freezeG (i := 0) rfl hbb5_3
      exact ⟨_, hF.2, PH.add_self _ _ _, hF.1⟩
    refine WL.nil (Thn_n ?_)
    refine CW.seq ?_
    refine CW.region ?_
    refine WL.step rfl (Stp.res rfl rfl (Res.move rfl rfl) ?_)
    refine WL.step rfl (Stp.res rfl rfl (Res.loadAll (cs := TV ((l.getD i T0)) dae3 dce3 sae3 sce3) rfl rfl underlying35 rfl sz35 (hS.on _ _ hbb5_3_5)) ?_)
    refine WL.step rfl (Stp.callG (args := [.slice (ka) (l.length) (kc), .agg (TV ((l.getD i T0)) dae3 dce3 sae3 sce3)]) rfl rfl rfl cal94 rfl rfl hS (leads_ok N ((l.getD i T0)) (l) _ _ _ _ _ _ _ _ hS.on (PH.le.trans hN hG5.1) (hk.toTs (PH.le.trans hN hG5.1) hG5.1) hde3 hse3 (h4 _ (getD_mem (by omega)))) ?_)
    rintro v w _ hS _ ⟨rfl, hl6⟩
    obtain ⟨ahl6, chl6, rfl, bhl6, dhl6⟩ := id (Ts2.open hl6)
    refine WL.step rfl (Stp.res rfl rfl (Res.len rfl rfl rfl rfl underlying22) ?_)
    refine WL.step rfl (Stp.res rfl rfl (Res.move rfl rfl) ?_)
    refine WL.nil (Thn_n ?_)
    refine CW.block ?_
    refine CW.loop (σ := Nat) (fun m => [(0, .slice (ka) (l.length) (kc)), (2, .pointer (some ⟨b2_0, 0, none⟩)), (5, .pointer (some ⟨b5_3, 0, none⟩)), (8, .slice (ka) (l.length) (kc)), (9, .int .i64 ((l.length : Nat) : Int)), (10, .int .i64 ((i : Nat) : Int)), (11, .bool (decide (((i : Nat) : Int) < ((l.length : Nat) : Int)))), (12, .pointer (some ⟨be3, oe3 + i * 5, none⟩)), (13, .agg (TV ((l.getD i T0)) dae3 dce3 sae3 sce3)), (14, .slice (ka) (l.length) (kc)), (15, .agg (TV ((l.getD i T0)) dae3 dce3 sae3 sce3)), (16, .slice (ahl6) ((leads l (l.getD i T0)).length) (chl6)), (17, .int .i64 (((leads l (l.getD i T0)).length : Nat) : Int)), (18, .int .i64 ((m : Nat) : Int))])
      (fun m w' => m ≤ (leads l (l.getD i T0)).length ∧ (∀ j, j < m → (leads l (l.getD i T0)).getD j T0 ∈ l) ∧ St w0 w' M5 ([(b2_0, .cells (#[.int .i64 ((0 : Nat) : Int), .slice (none) (0) (0), Go.E.str ([]), .int .i64 ((0 : Nat) : Int), .slice (none) (0) (0)]) 35 (0, 0))])) (fun m => (leads l (l.getD i T0)).length - m) 0 ⟨rfl, rfl, rfl, rfl, rfl, rfl, rfl, rfl, rfl, rfl, rfl, rfl, rfl, rfl, trivial⟩ ⟨by omega, fun j hj => by omega, hS⟩ ?_
    rintro m w ⟨hm, hin, hS⟩
    refine CW.seq ?_
    refine CW.region ?_
    refine WL.step rfl (Stp.res rfl rfl (Res.lss rfl rfl rfl) ?_)
    refine WL.nil (Thn_n ?_)
    refine CW.seq ?_
    refine CW.ite rfl (fun hc7 => ?_) (fun hc7 => ?_)
    · refine CW.skip (Thn_n ?_)
      refine CW.seq ?_
      refine CW.block ?_
      refine CW.seq ?_
      refine CW.region ?_
      obtain ⟨be8, oe8, dae8, dce8, sae8, sce8, eae8, hce8, hde8, hse8⟩ := Ts2.get (j := m) hl6 (by omega)
      have hne8 := hse8.len
      refine WL.step rfl (Stp.res rfl rfl (Res.idxT 5 (k := m) rfl rfl eae8 rfl underlying22 sz35 (Int.toNat_natCast _) (by omega)) ?_)
      refine WL.step rfl (Stp.res rfl rfl (Res.loadN (r := (TV (((leads l (l.getD i T0)).getD m T0)) dae8 dce8 sae8 sce8).toList) rfl rfl underlying35 rfl sz35 rfl (fun j u hu => hS.cell (PH.cell_mono (PH.le.trans hN hG5.1) (hce8 j u hu)))) ?_)
      refine WL.step rfl (Stp.alloc (cs := #[.int .i64 ((0 : Nat) : Int), .slice (none) (0) (0), Go.E.str ([]), .int .i64 ((0 : Nat) : Int), .slice (none) (0) (0)]) rfl zt35 rfl rfl rfl hS ?_)
      intro b7_8 w hbb7_8 hS hkp hnw
      refine WL.step rfl (Stp.storeAll 0 rfl rfl rfl (sz35) (Tm.of (hde8.mono (PH.le.trans hN hG5.1)) (hse8.mono (PH.le.trans hN hG5.1))).one rfl hS rfl rfl ?_)
      intro w hS hpt
      change St w0 _ M5 ([(b7_8, .cells (TV (((leads l (l.getD i T0)).getD m T0)) dae8 dce8 sae8 sce8) 35 (0, 0)), (b2_0, .cells (#[.int .i64 ((0 : Nat) : Int), .slice (none) (0) (0), Go.E.str ([]), .int .i64 ((0 : Nat) : Int), .slice (none) (0) (0)]) 35 (0, 0))]) at hS
      obtain ⟨M10, hG10, hbb7_8_10, hS⟩ : ∃ Mx, Grow w0.heap.size M5 Mx ∧ Kb Mx b7_8 (.cells (TV (((leads l (l.getD i T0)).getD m T0)) dae8 dce8 sae8 sce8) 35 (0, 0)) ∧ St w0 w Mx ([(b2_0, .cells (#[.int .i64 ((0 : Nat) : Int), .slice (none) (0) (0), Go.E.str ([]), .int .i64 ((0 : Nat) : Int), .slice (none) (0) (0)]) 35 (0, 0))]) := by
        have hF := hS.freezeG (i := 0) rfl hbb7_8
        exact ⟨_, hF.2, PH.add_self _ _ _, hF.1⟩
      refine WL.nil (Thn_n ?_)
      refine CW.seq ?_
      refine CW.region ?_
      refine WL.step rfl (Stp.res rfl rfl (Res.move rfl rfl) ?_)
      refine WL.step rfl (Stp.res rfl rfl (Res.loadAll (cs := TV (((leads l (l.getD i T0)).getD m T0)) dae8 dce8 sae8 sce8) rfl rfl underlying35 rfl sz35 (hS.on _ _ hbb7_8_10)) ?_)
      refine WL.step rfl (Stp.callG (args := [.slice (ka) (l.length) (kc), .agg (TV (((leads l (l.getD i T0)).getD m T0)) dae8 dce8 sae8 sce8)]) rfl rfl rfl cal58 rfl rfl hS (thas_ok (((leads l (l.getD i T0)).getD m T0)) (l) _ _ _ _ _ _ _ _ hS.on (hk.toTs (PH.le.trans hN (hG5.trans hG10).1) (hG5.trans hG10).1) (hde8.mono (PH.le.trans hN (hG5.trans hG10).1)) (hse8.mono (PH.le.trans hN (hG5.trans hG10).1))) ?_)
      rintro _ w _ hS _ ⟨rfl, rfl⟩
      refine WL.step rfl (Stp.res rfl rfl (Res.notP rfl rfl rfl) ?_)
      refine WL.nil (Thn_n ?_)
      refine CW.ite rfl (fun hc11 => ?_) (fun hc11 => ?_)
      · have hne := hc11
        refine CW.seq ?_
        refine CW.region ?_
        refine WL.step rfl (Stp.res rfl rfl (Res.loadAll (cs := TV (((leads l (l.getD i T0)).getD m T0)) dae8 dce8 sae8 sce8) rfl rfl underlying35 rfl sz35 (hS.on _ _ hbb7_8_10)) ?_)
        refine WL.step rfl (Stp.storeAll 0 rfl rfl rfl (sz35) (Tm.of (hde8.mono (PH.le.trans hN (hG5.trans hG10).1)) (hse8.mono (PH.le.trans hN (hG5.trans hG10).1))).one rfl hS rfl rfl ?_)
        intro w hS hpt
        change St w0 _ M10 ([(b2_0, .cells (TV (((leads l (l.getD i T0)).getD m T0)) dae8 dce8 sae8 sce8) 35 (0, 0))]) at hS
        refine WL.step rfl (Stp.res rfl rfl (Res.assign rfl rfl) ?_)
        refine WL.nil (Thn_n ?_)
        refine CW.ret (Blk_r (Thn_r (Thn_r (Blk_r (Blk_r (Thn_r (Thn_r (Blk_r (Thn_r ?_)))))))))
        exact fq_cell_tmp rfl rfl rfl (hS.get (i := 0) rfl) underlying35 rfl sz35 ⟨M, ((hS.drop (i := 0) rfl hbb2_0).known (hG5.trans hG10).1), PH.le.refl _, Fresh.refl _ _, rfl, ⟨_, _, _, _, _, true, rfl, hde8, hse8, .inl ⟨rfl, next_some (i := i) (m := m) (by omega) hall (by omega) hin hne⟩⟩⟩
      · have heq := Decidable.not_not.1 hc11
        refine CW.skip (Blk_n (Thn_n ?_))
        refine CW.region ?_
        refine WL.step rfl (Stp.res rfl rfl (Res.cast (Res.add rfl rfl rfl (by omega)) (show _ = (.int .i64 ((m + 1 : Nat) : Int) : Value) from congrArg (Value.int .i64) (by omega))) ?_)
        refine WL.step rfl (Stp.res rfl rfl (Res.move rfl rfl) ?_)
        refine WL.nil (Thn_n ?_)
        exact ⟨m + 1, ⟨(rfl), (rfl), (rfl), (rfl), (rfl), (rfl), (rfl), (rfl), (rfl), (rfl), (rfl), (rfl), (rfl), (by first | rfl | exact intc (by omega)), trivial⟩, ⟨by omega, (fun j hj => by
            by_cases e : j = m
            · rw [e]; exact heq
            · exact hin j (by omega)), hS.known hG10.1⟩, by omega⟩
    · refine CW.exit (Thn_x (Thn_x (Blk_x (Blk_n (Thn_n ?_)))))
      refine CW.region ?_
      refine WL.step rfl (Stp.res rfl rfl (Res.cast (Res.add rfl rfl rfl (by omega)) (show _ = (.int .i64 ((i + 1 : Nat) : Int) : Value) from congrArg (Value.int .i64) (by omega))) ?_)
      refine WL.step rfl (Stp.res rfl rfl (Res.move rfl rfl) ?_)
      refine WL.nil (Thn_n ?_)
      exact ⟨i + 1, ⟨(rfl), (rfl), (rfl), (rfl), (by first | rfl | exact intc (by omega)), trivial⟩, ⟨by omega, (fun j hj => by
          by_cases e : j = i
          · rw [e]; exact all_getD' (fun m hm => hin m (by omega))
          · exact hall j (by omega)), hS.known hG5.1⟩, by omega⟩
  · refine CW.exit (Thn_x (Thn_x (Blk_x (Thn_n ?_))))
    refine CW.seq ?_
    refine CW.region ?_
    refine WL.step rfl (Stp.res rfl rfl (Res.build (vals := []) (cs := #[.int .i64 ((0 : Nat) : Int), .slice (none) (0) (0), Go.E.str ([]), .int .i64 ((0 : Nat) : Int), .slice (none) (0) (0)]) rfl rfl (fun _ => by kernel_rfl)) ?_)
    refine WL.step rfl (Stp.storeAll 0 rfl rfl rfl (sz35) (by intro v hv; simp at hv; rcases hv with rfl | rfl | rfl | rfl | rfl <;> rfl) rfl hS rfl rfl ?_)
    intro w hS hpt
    change St w0 _ M ([(b2_0, .cells (#[.int .i64 ((0 : Nat) : Int), .slice (none) (0) (0), Go.E.str ([]), .int .i64 ((0 : Nat) : Int), .slice (none) (0) (0)]) 35 (0, 0))]) at hS
    refine WL.step rfl (Stp.res rfl rfl (Res.assign rfl rfl) ?_)
    refine WL.nil (Thn_n ?_)
    refine CW.ret ?_
    exact fq_cell_tmp rfl rfl rfl (hS.get (i := 0) rfl) underlying35 rfl sz35 ⟨M, (hS.drop (i := 0) rfl hbb2_0), PH.le.refl _, Fresh.refl _ _, rfl, NextR.none (next_none fun j hj => hall j (by omega))⟩
end Go.Proofs.YtcmgimicdcchlaaGreatDoor
set_option linter.unusedSimpArgs false
set_option linter.unusedVariables false
set_option maxRecDepth 20000
namespace Go.Proofs.YtcmgimicdcchlaaGreatDoor
open Go.Proofs.Tryz
open Go Go.E Go.Trm
def CountC (f : FuncId) (t : T) : Prop := ∀ (da1 : Option Addr) (dc1 : Nat) (la1 : Option Addr) (lc1 : Nat) (left c b : Nat) (w0 : World) (M : PH) (_ : On M w0) (_ : w0.heap[b]? = some (.cells #[.int .i64 (((c : Nat) : Int))] 3 (0, 0))) (_ : M b = none) (_ : left ≤ 1000) (_ : c ≤ 1000) (hd1 : Bs M (.slice da1 t.data.length dc1) t.data) (hs1 : Ts M (.slice la1 t.subs.length lc1) t.subs), OkO Tryz.prog f #[.agg (TV t da1 dc1 la1 lc1), .int .i64 ((left : Nat) : Int), .pointer (some ⟨b, 0, none⟩)] w0 M b (fun M' o r => M = M' ∧ ∃ m : Nat, o = .cells #[.int .i64 (((m : Nat) : Int))] 3 (0, 0) ∧ r = .bool (decide (CountOk left t c)) ∧ (CountOk left t c → m = c + size t))
def DeepC (f : FuncId) (t : T) : Prop := ∀ (da1 : Option Addr) (dc1 : Nat) (la1 : Option Addr) (lc1 : Nat) (left : Nat) (w0 : World) (M : PH) (_ : On M w0) (_ : left ≤ 1000) (hd1 : Bs M (.slice da1 t.data.length dc1) t.data) (hs1 : Ts M (.slice la1 t.subs.length lc1) t.subs), Ok Tryz.prog f #[.agg (TV t da1 dc1 la1 lc1), .int .i64 ((left : Nat) : Int)] w0 M (fun M' r => M = M' ∧ ∃ a b : Nat, r = .tuple #[.int .i64 (a : Int), .int .i64 (b : Int)] ∧ DeepR left t a b)
theorem cal68 : Callable Tryz.prog 68 := ⟨Tryz.f68, func68, rfl, by kernel_rfl⟩
theorem cal99 : Callable Tryz.prog 99 := ⟨Tryz.f99, func99, rfl, by kernel_rfl⟩
theorem zt3 : (Tryz.prog.info? 3).map (·.zero) = some (some (.int .i64 ((0 : Nat) : Int))) := by kernel_rfl
theorem count_step (t : T) (ih : ∀ t', size t' < size t → CountC 99 t') : CountC 99 t := by
  intro da1 dc1 la1 lc1 left c b w0 M hM hb hm hl9 hc9 hd1 hs1
  have hS := hM.st1 hb hm
  have hbl := hs1.len
  refine enterO (l := [.agg (TV (t) da1 dc1 la1 lc1), .int .i64 ((left : Nat) : Int), .pointer (some ⟨b, 0, none⟩)]) 36 func99 rfl ntmps99 rfl ?_
  refine CW.seq ?_
  refine CW.region ?_
  refine WL.step rfl (Stp.boxA (cs := TV (t) da1 dc1 la1 lc1) rfl rfl rfl rfl hS ?_)
  intro b3_0 w hbb3_0 hS hkp hnw
  obtain ⟨M2, hG2, hbb3_0_2, hS⟩ : ∃ Mx, Grow w0.heap.size M Mx ∧ Kb Mx b3_0 (.cells (TV (t) da1 dc1 la1 lc1) 35 (0, 0)) ∧ St w0 w Mx ([(b, .cells (#[.int .i64 ((c : Nat) : Int)]) 3 (0, 0))]) := by
    have hF := hS.freezeG (i := 0) rfl hbb3_0
    exact ⟨_, hF.2, PH.add_self _ _ _, hF.1⟩
  refine WL.step rfl (Stp.res rfl rfl (Res.assign rfl rfl) ?_)
  refine WL.nil (Thn_n ?_)
  refine CW.seq ?_
  refine CW.region ?_
  refine WL.step rfl (Stp.res rfl rfl (Res.move rfl rfl) ?_)
  refine WL.step rfl (Stp.res rfl rfl (Res.nilCheck rfl rfl) ?_)
  refine WL.step rfl (Stp.res rfl rfl (Res.load1 (v := .int .i64 ((c : Nat) : Int)) rfl rfl underlying3 rfl (cell_in (hS.get (i := 0) rfl) rfl)) ?_)
  refine WL.step rfl (Stp.res rfl rfl (Res.cast (Res.add rfl rfl rfl (by omega)) (show _ = (.int .i64 ((c + 1 : Nat) : Int) : Value) from congrArg (Value.int .i64) (by omega))) ?_)
  refine WL.step rfl (Stp.res rfl rfl (Res.nilCheck rfl rfl) ?_)
  refine WL.step rfl (Stp.store1 0 (v := .int .i64 ((c + 1 : Nat) : Int)) rfl rfl rfl sz3 rfl rfl hS rfl (blt_lt rfl) ?_)
  intro w hS hpt
  change St w0 _ M2 ([(b, .cells (#[.int .i64 ((c + 1 : Nat) : Int)]) 3 (0, 0))]) at hS
  refine WL.nil (Thn_n ?_)
  refine CW.seq ?_
  refine CW.seq ?_
  refine CW.region ?_
  refine WL.step rfl (Stp.res rfl rfl (Res.move rfl rfl) ?_)
  refine WL.step rfl (Stp.res rfl rfl (Res.eql rfl rfl rfl) ?_)
  refine WL.step rfl (Stp.res rfl rfl (Res.move rfl rfl) ?_)
  by_cases hg3 : ((left : Nat) : Int) = ((0 : Nat) : Int)
  · refine WL.skipG 2 false rfl rfl rfl (bT hg3) rfl rfl ?_
    refine WL.skipG 2 false rfl rfl rfl (bT hg3) rfl rfl ?_
    refine WL.skipG 2 false rfl rfl rfl (bT hg3) rfl rfl ?_
    refine WL.skipG 2 false rfl rfl rfl (bT hg3) rfl rfl ?_
    refine WL.step rfl (Stp.res rfl rfl (Res.pickT rfl (bT hg3) rfl) ?_)
    refine WL.nil (Thn_n ?_)
    refine CW.condT rfl ?_
    refine CW.seq ?_
    refine CW.region ?_
    refine WL.step rfl (Stp.res rfl rfl (Res.assign rfl rfl) ?_)
    refine WL.nil (Thn_n ?_)
    refine CW.ret (Thn_r ?_)
    have hno : ¬ CountOk left t c := by
      obtain rfl : left = 0 := by omega
      exact count_no0
    exact fq_tmp rfl rfl ⟨M, _, hS.known hG2.1, PH.le.refl _, Fresh.refl _ _, rfl, c + 1, rfl, congrArg Value.bool (decide_eq_false hno).symm, fun h => absurd h hno⟩
  · refine WL.stepG 2 false rfl rfl rfl (bF hg3) (Stp.res rfl rfl (Res.move rfl rfl) ?_)
    refine WL.stepG 2 false rfl rfl rfl (bF hg3) (Stp.res rfl rfl (Res.nilCheck rfl rfl) ?_)
    refine WL.stepG 2 false rfl rfl rfl (bF hg3) (Stp.res rfl rfl (Res.load1 (v := .int .i64 ((c + 1 : Nat) : Int)) rfl rfl underlying3 rfl (cell_in (hS.get (i := 0) rfl) rfl)) ?_)
    refine WL.stepG 2 false rfl rfl rfl (bF hg3) (Stp.res rfl rfl (Res.gtr rfl rfl rfl) ?_)
    refine WL.step rfl (Stp.res rfl rfl (Res.pickF rfl (bF hg3) rfl) ?_)
    refine WL.nil (Thn_n ?_)
    refine CW.ite rfl (fun hc4 => ?_) (fun hc4 => ?_)
    · refine CW.seq ?_
      refine CW.region ?_
      refine WL.step rfl (Stp.res rfl rfl (Res.assign rfl rfl) ?_)
      refine WL.nil (Thn_n ?_)
      refine CW.ret (Thn_r ?_)
      have hno : ¬ CountOk left t c := (fun h => by have := h.2; have := size_pos t; omega)
      exact fq_tmp rfl rfl ⟨M, _, hS.known hG2.1, PH.le.refl _, Fresh.refl _ _, rfl, c + 1, rfl, congrArg Value.bool (decide_eq_false hno).symm, fun h => absurd h hno⟩
    · refine CW.skip (Thn_n ?_)
      refine CW.seq ?_
      refine CW.seq ?_
      refine CW.region ?_
      refine WL.step rfl (Stp.res rfl rfl (Res.fieldA rfl rfl underlying35 rfl (show SZ Tryz.prog _ 1 from sz22) (by decide)) ?_)
      refine WL.step rfl (Stp.res rfl rfl (Res.load1 (v := .slice (la1) (t.subs.length) (lc1)) rfl rfl underlying22 rfl (hS.cell (PH.cell_of hbb3_0_2 rfl))) ?_)
      refine WL.step rfl (Stp.res rfl rfl (Res.len rfl rfl rfl rfl underlying22) ?_)
      refine WL.step rfl (Stp.res rfl rfl (Res.move rfl rfl) ?_)
      refine WL.nil (Thn_n ?_)
      refine CW.block ?_
      refine CW.loop (σ := Nat) (fun i => [(1, .int .i64 ((left : Nat) : Int)), (2, .pointer (some ⟨b, 0, none⟩)), (23, .slice (la1) (t.subs.length) (lc1)), (24, .int .i64 ((t.subs.length : Nat) : Int)), (25, .int .i64 ((i : Nat) : Int))])
        (fun i w' => i ≤ t.subs.length ∧ c + 1 + sizes (t.subs.take i) ≤ 256 ∧ (∀ j, j < i → depth (t.subs.getD j T0) ≤ left - 1) ∧ St w0 w' M2 ([(b, .cells (#[.int .i64 ((c + 1 + sizes (t.subs.take i) : Nat) : Int)]) 3 (0, 0))])) (fun i => t.subs.length - i) 0 ⟨rfl, rfl, rfl, rfl, rfl, trivial⟩ ⟨by omega, by rw [List.take_zero, sizes]; omega, (fun j hj => by omega), by rw [List.take_zero, sizes]; exact hS⟩ ?_
      rintro i w ⟨hi, hsz, hall, hS⟩
      refine CW.seq ?_
      refine CW.region ?_
      refine WL.step rfl (Stp.res rfl rfl (Res.lss rfl rfl rfl) ?_)
      refine WL.nil (Thn_n ?_)
      refine CW.seq ?_
      refine CW.ite rfl (fun hc5 => ?_) (fun hc5 => ?_)
      · refine CW.skip (Thn_n ?_)
        refine CW.seq ?_
        refine CW.block ?_
        refine CW.seq ?_
        refine CW.region ?_
        obtain ⟨be6, oe6, dae6, dce6, sae6, sce6, eae6, hce6, hde6, hse6⟩ := Ts2.get (j := i) hs1 (by omega)
        have hne6 := hse6.len
        refine WL.step rfl (Stp.res rfl rfl (Res.idxT 5 (k := i) rfl rfl eae6 rfl underlying22 sz35 (Int.toNat_natCast _) (by omega)) ?_)
        refine WL.step rfl (Stp.res rfl rfl (Res.loadN (r := (TV ((t.subs.getD i T0)) dae6 dce6 sae6 sce6).toList) rfl rfl underlying35 rfl sz35 rfl (fun j u hu => hS.cell (PH.cell_mono hG2.1 (hce6 j u hu)))) ?_)
        refine WL.step rfl (Stp.alloc (cs := #[.int .i64 ((0 : Nat) : Int), .slice (none) (0) (0), Go.E.str ([]), .int .i64 ((0 : Nat) : Int), .slice (none) (0) (0)]) rfl zt35 rfl rfl rfl hS ?_)
        intro b8_6 w hbb8_6 hS hkp hnw
        refine WL.step rfl (Stp.storeAll 0 rfl rfl rfl (sz35) (Tm.of (hde6.mono hG2.1) (hse6.mono hG2.1)).one rfl hS rfl rfl ?_)
        intro w hS hpt
        change St w0 _ M2 ([(b8_6, .cells (TV ((t.subs.getD i T0)) dae6 dce6 sae6 sce6) 35 (0, 0)), (b, .cells (#[.int .i64 ((c + 1 + sizes (t.subs.take i) : Nat) : Int)]) 3 (0, 0))]) at hS
        obtain ⟨M8, hG8, hbb8_6_8, hS⟩ : ∃ Mx, Grow w0.heap.size M2 Mx ∧ Kb Mx b8_6 (.cells (TV ((t.subs.getD i T0)) dae6 dce6 sae6 sce6) 35 (0, 0)) ∧ St w0 w Mx ([(b, .cells (#[.int .i64 ((c + 1 + sizes (t.subs.take i) : Nat) : Int)]) 3 (0, 0))]) := by
          have hF := hS.freezeG (i := 0) rfl hbb8_6
          exact ⟨_, hF.2, PH.add_self _ _ _, hF.1⟩
        refine WL.nil (Thn_n ?_)
        refine CW.seq ?_
        refine CW.region ?_
        refine WL.step rfl (Stp.res rfl rfl (Res.loadAll (cs := TV ((t.subs.getD i T0)) dae6 dce6 sae6 sce6) rfl rfl underlying35 rfl sz35 (hS.on _ _ hbb8_6_8)) ?_)
        refine WL.step rfl (Stp.res rfl rfl (Res.move rfl rfl) ?_)
        refine WL.step rfl (Stp.res rfl rfl (Res.cast (Res.sub rfl rfl rfl (by omega)) (show _ = (.int .i64 ((left - 1 : Nat) : Int) : Value) from congrArg (Value.int .i64) (by omega))) ?_)
        refine WL.step rfl (Stp.res rfl rfl (Res.move rfl rfl) ?_)
        refine WL.step rfl (Stp.callO 0 (args := [.agg (TV ((t.subs.getD i T0)) dae6 dce6 sae6 sce6), .int .i64 ((left - 1 : Nat) : Int), .pointer (some ⟨b, 0, none⟩)]) rfl rfl rfl cal99 rfl rfl hS rfl (ih (t.subs.getD i T0) (by first | exact size_at (by omega) | (apply size_at; omega)) _ _ _ _ (left - 1) (c + 1 + sizes (t.subs.take i)) b _ _ hS.on (hS.get (i := 0) rfl) (hS.out (i := 0) rfl) (by omega) (by omega) (hde6.mono (hG2.trans hG8).1) (hse6.mono (hG2.trans hG8).1)) ?_)
        rintro _ w _ _ hS _ _ _ ⟨rfl, m, rfl, rfl, hm⟩
        change St w0 _ M8 ([(b, .cells (#[.int .i64 ((m : Nat) : Int)]) 3 (0, 0))]) at hS
        refine WL.step rfl (Stp.res rfl rfl (Res.notP rfl rfl rfl) ?_)
        refine WL.nil (Thn_n ?_)
        refine CW.ite rfl (fun hc9 => ?_) (fun hc9 => ?_)
        · have hnc := hc9
          refine CW.seq ?_
          refine CW.region ?_
          refine WL.step rfl (Stp.res rfl rfl (Res.assign rfl rfl) ?_)
          refine WL.nil (Thn_n ?_)
          refine CW.ret (Blk_r (Thn_r (Thn_r (Blk_r (Thn_r ?_)))))
          have hno : ¬ CountOk left t c := count_no hnc (by omega)
          exact fq_tmp rfl rfl ⟨M, _, hS.known (hG2.trans hG8).1, PH.le.refl _, Fresh.refl _ _, rfl, m, rfl, congrArg Value.bool (decide_eq_false hno).symm, fun h => absurd h hno⟩
        · have hnc := Decidable.not_not.1 hc9
          refine CW.skip (Blk_n (Thn_n ?_))
          refine CW.region ?_
          refine WL.step rfl (Stp.res rfl rfl (Res.cast (Res.add rfl rfl rfl (by omega)) (show _ = (.int .i64 ((i + 1 : Nat) : Int) : Value) from congrArg (Value.int .i64) (by omega))) ?_)
          refine WL.step rfl (Stp.res rfl rfl (Res.move rfl rfl) ?_)
          refine WL.nil (Thn_n ?_)
          obtain ⟨hd8, hs8⟩ := id hnc
          have hst := sizes_take (l := t.subs) (i := i) (by omega)
          have hm8 := hm hnc
          obtain rfl : m = c + 1 + sizes (t.subs.take (i + 1)) := by omega
          exact ⟨i + 1, ⟨(rfl), (rfl), (rfl), (rfl), (by first | rfl | exact intc (by omega)), trivial⟩, ⟨by omega, by omega, (fun j hj => by
              by_cases e : j = i
              · rw [e]; exact hd8
              · exact hall j (by omega)), hS.known hG8.1⟩, by omega⟩
      · refine CW.exit (Thn_x (Thn_x (Blk_x (Thn_n ?_))))
        refine CW.seq ?_
        refine CW.region ?_
        refine WL.step rfl (Stp.res rfl rfl (Res.assign rfl rfl) ?_)
        refine WL.nil (Thn_n ?_)
        refine CW.ret ?_
        obtain rfl : i = t.subs.length := by omega
        rw [List.take_length] at hsz hS
        have hyes := count_yes (left := left) (c := c) (t := t) (by omega) (fun j hj => hall j (by omega)) (by omega)
        exact fq_tmp rfl rfl ⟨M, _, hS.known hG2.1, PH.le.refl _, Fresh.refl _ _, rfl, c + 1 + sizes t.subs, rfl, congrArg Value.bool (decide_eq_true hyes).symm, fun _ => (by have := size_eq t; omega)⟩
theorem count_ok (t : T) : CountC 99 t := indS (p := fun t => CountC 99 t) (fun t ih => count_step t ih) t
theorem many_ok (t : T) (da1 : Option Addr) (dc1 : Nat) (la1 : Option Addr) (lc1 : Nat) (w0 : World) (M : PH) (hM : On M w0) (hd1 : Bs M (.slice da1 t.data.length dc1) t.data) (hs1 : Ts M (.slice la1 t.subs.length lc1) t.subs) : Ok Tryz.prog 65 #[.agg (TV t da1 dc1 la1 lc1)] w0 M (fun M' r => M = M' ∧ ∃ m : Nat, r = .tuple #[.int .i64 (m : Int), .bool (decide (Small t))] ∧ (Small t → m = size t)) := by
  have hS := hM.st
  refine enterB (l := [.agg (TV (t) da1 dc1 la1 lc1)]) 10 func65 rfl ntmps65 rfl ?_
  refine CW.seq ?_
  refine CW.region ?_
  refine WL.step rfl (Stp.boxA (cs := TV (t) da1 dc1 la1 lc1) rfl rfl rfl rfl hS ?_)
  intro b1_0 w hbb1_0 hS hkp hnw
  obtain ⟨M2, hG2, hbb1_0_2, hS⟩ : ∃ Mx, Grow w0.heap.size M Mx ∧ Kb Mx b1_0 (.cells (TV (t) da1 dc1 la1 lc1) 35 (0, 0)) ∧ St w0 w Mx ([]) := by
    have hF := hS.freezeG (i := 0) rfl hbb1_0
    exact ⟨_, hF.2, PH.add_self _ _ _, hF.1⟩
  refine WL.step rfl (Stp.res rfl rfl (Res.assign rfl rfl) ?_)
  refine WL.step rfl (Stp.res rfl rfl (Res.assign rfl rfl) ?_)
  refine WL.nil (Thn_n ?_)
  refine CW.seq ?_
  refine CW.region ?_
  refine WL.step rfl (Stp.alloc (cs := #[.int .i64 ((0 : Nat) : Int)]) rfl zt3 rfl rfl rfl hS ?_)
  intro b4_2 w hbb4_2 hS hkp hnw
  refine WL.step rfl (Stp.store1 0 (v := .int .i64 ((0 : Nat) : Int)) rfl rfl rfl sz3 rfl rfl hS rfl (blt_lt rfl) ?_)
  intro w hS hpt
  change St w0 _ M2 ([(b4_2, .cells (#[.int .i64 ((0 : Nat) : Int)]) 3 (0, 0))]) at hS
  refine WL.nil (Thn_n ?_)
  refine CW.seq ?_
  refine CW.region ?_
  refine WL.step rfl (Stp.res rfl rfl (Res.loadAll (cs := TV (t) da1 dc1 la1 lc1) rfl rfl underlying35 rfl sz35 (hS.on _ _ hbb1_0_2)) ?_)
  refine WL.step rfl (Stp.callO 0 (args := [.agg (TV (t) da1 dc1 la1 lc1), .int .i64 ((8 : Nat) : Int), .pointer (some ⟨b4_2, 0, none⟩)]) rfl rfl rfl cal99 rfl rfl hS rfl (count_ok t _ _ _ _ (8) (0) b4_2 _ _ hS.on (hS.get (i := 0) rfl) (hS.out (i := 0) rfl) (by omega) (by omega) (hd1.mono hG2.1) (hs1.mono hG2.1)) ?_)
  rintro _ w _ _ hS _ _ _ ⟨rfl, m, rfl, rfl, hm⟩
  change St w0 _ M2 ([(b4_2, .cells (#[.int .i64 ((m : Nat) : Int)]) 3 (0, 0))]) at hS
  refine WL.step rfl (Stp.res rfl rfl (Res.assign rfl rfl) ?_)
  refine WL.nil (Thn_n ?_)
  refine CW.seq ?_
  refine CW.region ?_
  refine WL.step rfl (Stp.res rfl rfl (Res.load1 (v := .int .i64 ((m : Nat) : Int)) rfl rfl underlying3 rfl (cell_in (hS.get (i := 0) rfl) rfl)) ?_)
  refine WL.step rfl (Stp.res rfl rfl (Res.move rfl rfl) ?_)
  refine WL.step rfl (Stp.res rfl rfl (Res.assign rfl rfl) ?_)
  refine WL.step rfl (Stp.res rfl rfl (Res.assign rfl rfl) ?_)
  refine WL.nil (Thn_n ?_)
  refine CW.ret ?_
  exact fq_tmp2 rfl rfl rfl ⟨M, ((hS.drop (i := 0) rfl hbb4_2).known hG2.1), PH.le.refl _, Fresh.refl _ _, rfl, ⟨m, congrArg (fun p => Value.tuple #[.int .i64 (m : Int), .bool p]) (decide_eq_decide.2 (by unfold CountOk Small; omega)), fun h => by have := hm (by have := h.1; have := h.2; exact ⟨by omega, by omega⟩); omega⟩⟩
theorem deep_step (t : T) (ih : ∀ t', size t' < size t → DeepC 68 t') : DeepC 68 t := by
  intro da1 dc1 la1 lc1 left w0 M hM hl9 hd1 hs1
  have hS := hM.st
  have hbl := hs1.len
  refine enterB (l := [.agg (TV (t) da1 dc1 la1 lc1), .int .i64 ((left : Nat) : Int)]) 47 func68 rfl ntmps68 rfl ?_
  refine CW.seq ?_
  refine CW.region ?_
  refine WL.step rfl (Stp.boxA (cs := TV (t) da1 dc1 la1 lc1) rfl rfl rfl rfl hS ?_)
  intro b2_0 w hbb2_0 hS hkp hnw
  obtain ⟨M2, hG2, hbb2_0_2, hS⟩ : ∃ Mx, Grow w0.heap.size M Mx ∧ Kb Mx b2_0 (.cells (TV (t) da1 dc1 la1 lc1) 32 (0, 0)) ∧ St w0 w Mx ([]) := by
    have hF := hS.freezeG (i := 0) rfl hbb2_0
    exact ⟨_, hF.2, PH.add_self _ _ _, hF.1⟩
  refine WL.step rfl (Stp.res rfl rfl (Res.assign rfl rfl) ?_)
  refine WL.step rfl (Stp.res rfl rfl (Res.assign rfl rfl) ?_)
  refine WL.nil (Thn_n ?_)
  refine CW.seq ?_
  refine CW.region ?_
  refine WL.step rfl (Stp.res rfl rfl (Res.assign rfl rfl) ?_)
  refine WL.step rfl (Stp.res rfl rfl (Res.assign rfl rfl) ?_)
  refine WL.nil (Thn_n ?_)
  refine CW.seq ?_
  refine CW.seq ?_
  refine CW.region ?_
  refine WL.step rfl (Stp.res rfl rfl (Res.assign rfl rfl) ?_)
  refine WL.nil (Thn_n ?_)
  refine CW.block ?_
  refine CW.loop (σ := Nat) (fun i => [(1, .int .i64 ((left : Nat) : Int)), (2, .pointer (some ⟨b2_0, 0, none⟩)), (6, .int .i64 ((depths (t.subs.take i) : Nat) : Int)), (7, .int .i64 ((sizes (t.subs.take i) + 1 : Nat) : Int)), (8, .int .i64 ((i : Nat) : Int))])
    (fun i w' => i ≤ t.subs.length ∧ sizes (t.subs.take i) + 1 ≤ 256 ∧ depths (t.subs.take i) ≤ left ∧ St w0 w' M2 ([])) (fun i => t.subs.length - i) 0 ⟨rfl, rfl, rfl, rfl, rfl, trivial⟩ ⟨by omega, by rw [List.take_zero, sizes]; omega, by rw [List.take_zero, depths]; omega, hS⟩ ?_
  rintro i w ⟨hi, hsz, hdp, hS⟩
  refine CW.seq ?_
  refine CW.seq ?_
  refine CW.post (fun L' w' => Sub [(1, .int .i64 ((left : Nat) : Int)), (2, .pointer (some ⟨b2_0, 0, none⟩)), (6, .int .i64 ((depths (t.subs.take i) : Nat) : Int)), (7, .int .i64 ((sizes (t.subs.take i) + 1 : Nat) : Int)), (8, .int .i64 ((i : Nat) : Int)), (19, .bool (decide (i < t.subs.length ∧ i < 300)))] L' ∧ St w0 w' M2 ([])) ?_ ?_
  · refine CW.region ?_
    refine WL.step rfl (Stp.res rfl rfl (Res.move rfl rfl) ?_)
    refine WL.step rfl (Stp.res rfl rfl (Res.fieldA rfl rfl underlying32 rfl (show SZ Tryz.prog _ 1 from sz24) (by decide)) ?_)
    refine WL.step rfl (Stp.res rfl rfl (Res.load1 (v := .slice (la1) (t.subs.length) (lc1)) rfl rfl underlying24 rfl (hS.cell (PH.cell_of hbb2_0_2 rfl))) ?_)
    refine WL.step rfl (Stp.res rfl rfl (Res.len rfl rfl rfl rfl underlying24) ?_)
    refine WL.step rfl (Stp.res rfl rfl (Res.lss rfl rfl rfl) ?_)
    refine WL.step rfl (Stp.res rfl rfl (Res.move rfl rfl) ?_)
    by_cases hg3 : ((i : Nat) : Int) < ((t.subs.length : Nat) : Int)
    · refine WL.stepG 5 true rfl rfl rfl (bT hg3) (Stp.res rfl rfl (Res.move rfl rfl) ?_)
      refine WL.stepG 5 true rfl rfl rfl (bT hg3) (Stp.res rfl rfl (Res.lss rfl rfl rfl) ?_)
      refine WL.step rfl (Stp.res rfl rfl (Res.pickT rfl (bT hg3) rfl) ?_)
      refine WL.nil (Thn_n ?_)
      exact ⟨⟨rfl, rfl, rfl, rfl, rfl, (bI (by omega)), trivial⟩, hS⟩
    · refine WL.skipG 5 true rfl rfl rfl (bF hg3) rfl rfl ?_
      refine WL.skipG 5 true rfl rfl rfl (bF hg3) rfl rfl ?_
      refine WL.step rfl (Stp.res rfl rfl (Res.pickF rfl (bF hg3) rfl) ?_)
      refine WL.nil (Thn_n ?_)
      exact ⟨⟨rfl, rfl, rfl, rfl, rfl, (bFr (by omega)), trivial⟩, hS⟩
  · rintro L' w ⟨hsub, hS⟩
    refine (Thn_n (CW.sub hsub ?_))
    refine CW.ite rfl (fun hc4 => ?_) (fun hc4 => ?_)
    · refine CW.skip (Thn_n ?_)
      refine CW.seq ?_
      refine CW.block ?_
      refine CW.seq ?_
      refine CW.seq ?_
      refine CW.region ?_
      refine WL.step rfl (Stp.res rfl rfl (Res.move rfl rfl) ?_)
      refine WL.step rfl (Stp.res rfl rfl (Res.eql rfl rfl rfl) ?_)
      refine WL.nil (Thn_n ?_)
      refine CW.ite rfl (fun hc5 => ?_) (fun hc5 => ?_)
      · refine CW.seq ?_
        refine CW.region ?_
        refine WL.step rfl (Stp.res rfl rfl (Res.assign rfl rfl) ?_)
        refine WL.step rfl (Stp.res rfl rfl (Res.assign rfl rfl) ?_)
        refine WL.nil (Thn_n ?_)
        refine CW.ret (Thn_r (Blk_r (Thn_r (Thn_r (Blk_r (Thn_r ?_))))))
        have hno : ¬ DeepOk left t := by
          obtain rfl : left = 0 := by omega
          exact deep_no0 (i := i) (by omega)
        exact fq_tmp2 rfl rfl rfl ⟨M, (hS.known hG2.1), PH.le.refl _, Fresh.refl _ _, rfl, ⟨99, 999, rfl, .inr ⟨hno, rfl, rfl⟩⟩⟩
      · refine CW.skip (Thn_n ?_)
        refine CW.seq ?_
        refine CW.region ?_
        refine WL.step rfl (Stp.res rfl rfl (Res.fieldA rfl rfl underlying32 rfl (show SZ Tryz.prog _ 1 from sz24) (by decide)) ?_)
        refine WL.step rfl (Stp.res rfl rfl (Res.load1 (v := .slice (la1) (t.subs.length) (lc1)) rfl rfl underlying24 rfl (hS.cell (PH.cell_of hbb2_0_2 rfl))) ?_)
        refine WL.step rfl (Stp.res rfl rfl (Res.move rfl rfl) ?_)
        obtain ⟨be6, oe6, dae6, dce6, sae6, sce6, eae6, hce6, hde6, hse6⟩ := Ts2.get (j := i) hs1 (by omega)
        have hne6 := hse6.len
        refine WL.step rfl (Stp.res rfl rfl (Res.idxT 5 (k := i) rfl rfl eae6 rfl underlying24 sz32 (Int.toNat_natCast _) (by omega)) ?_)
        refine WL.step rfl (Stp.res rfl rfl (Res.loadN (r := (TV ((t.subs.getD i T0)) dae6 dce6 sae6 sce6).toList) rfl rfl underlying32 rfl sz32 rfl (fun j u hu => hS.cell (PH.cell_mono hG2.1 (hce6 j u hu)))) ?_)
        refine WL.step rfl (Stp.res rfl rfl (Res.move rfl rfl) ?_)
        refine WL.step rfl (Stp.res rfl rfl (Res.cast (Res.sub rfl rfl rfl (by omega)) (show _ = (.int .i64 ((left - 1 : Nat) : Int) : Value) from congrArg (Value.int .i64) (by omega))) ?_)
        refine WL.step rfl (Stp.callG (args := [.agg (TV ((t.subs.getD i T0)) dae6 dce6 sae6 sce6), .int .i64 ((left - 1 : Nat) : Int)]) rfl rfl rfl cal68 rfl rfl hS (ih (t.subs.getD i T0) (by first | exact size_at (by omega) | (apply size_at; omega)) _ _ _ _ (left - 1) _ _ hS.on (by omega) (hde6.mono hG2.1) (hse6.mono hG2.1)) ?_)
        rintro _ w _ hS _ ⟨rfl, ad7, bd7, rfl, hd7⟩
        have hr := hd7
        obtain ⟨va, hva⟩ : ∃ z, z = ad7 := ⟨_, rfl⟩
        obtain ⟨vb, hvb⟩ : ∃ z, z = bd7 := ⟨_, rfl⟩
        rw [← hva, ← hvb] at hr
        have hr9 := deep_le hr
        refine WL.step rfl (Stp.res rfl rfl (Res.move rfl rfl) ?_)
        refine WL.step rfl (Stp.res rfl rfl (Res.extract (l := [_, _]) rfl rfl rfl) ?_)
        refine WL.step rfl (Stp.res rfl rfl (Res.extract (l := [_, _]) rfl rfl rfl) ?_)
        refine WL.step rfl (Stp.res rfl rfl (Res.assign rfl rfl) ?_)
        refine WL.step rfl (Stp.res rfl rfl (Res.assign rfl rfl) ?_)
        refine WL.nil (Thn_n ?_)
        refine CW.seq ?_
        refine CW.region ?_
        refine WL.step rfl (Stp.res rfl rfl (Res.move rfl rfl) ?_)
        refine WL.step rfl (Stp.res rfl rfl (Res.move rfl rfl) ?_)
        refine WL.step rfl (Stp.res rfl rfl (Res.maxN (a := depths (t.subs.take i)) (b := ad7) rfl rfl rfl) ?_)
        refine WL.step rfl (Stp.res rfl rfl (Res.move rfl rfl) ?_)
        refine WL.step rfl (Stp.res rfl rfl (Res.move rfl rfl) ?_)
        refine WL.step rfl (Stp.res rfl rfl (Res.cast (Res.add rfl rfl rfl (by omega)) (show _ = (.int .i64 ((sizes (t.subs.take i) + 1 + bd7 : Nat) : Int) : Value) from congrArg (Value.int .i64) (by omega))) ?_)
        refine WL.step rfl (Stp.res rfl rfl (Res.minN (a := sizes (t.subs.take i) + 1 + bd7) (b := 999) rfl rfl rfl) ?_)
        refine WL.step rfl (Stp.res rfl rfl (Res.assign rfl rfl) ?_)
        refine WL.step rfl (Stp.res rfl rfl (Res.assign rfl rfl) ?_)
        refine WL.nil (Thn_n ?_)
        refine CW.seq ?_
        refine CW.region ?_
        refine WL.step rfl (Stp.res rfl rfl (Res.move rfl rfl) ?_)
        refine WL.step rfl (Stp.res rfl rfl (Res.gtr rfl rfl rfl) ?_)
        refine WL.nil (Thn_n ?_)
        refine CW.ite rfl (fun hc8 => ?_) (fun hc8 => ?_)
        · refine CW.seq ?_
          refine CW.region ?_
          refine WL.step rfl (Stp.res rfl rfl (Res.assign rfl rfl) ?_)
          refine WL.step rfl (Stp.res rfl rfl (Res.assign rfl rfl) ?_)
          refine WL.nil (Thn_n ?_)
          refine CW.ret (Blk_r (Thn_r (Thn_r (Blk_r (Thn_r ?_)))))
          have hno : ¬ DeepOk left t := deep_no (i := i) (by omega) hr (by omega) (by omega)
          exact fq_tmp2 rfl rfl rfl ⟨M, (hS.known hG2.1), PH.le.refl _, Fresh.refl _ _, rfl, ⟨99, 999, rfl, .inr ⟨hno, rfl, rfl⟩⟩⟩
        · refine CW.skip (Blk_n (Thn_n ?_))
          refine CW.region ?_
          refine WL.step rfl (Stp.res rfl rfl (Res.move rfl rfl) ?_)
          refine WL.step rfl (Stp.res rfl rfl (Res.cast (Res.add rfl rfl rfl (by omega)) (show _ = (.int .i64 ((i + 1 : Nat) : Int) : Value) from congrArg (Value.int .i64) (by omega))) ?_)
          refine WL.step rfl (Stp.res rfl rfl (Res.assign rfl rfl) ?_)
          refine WL.nil (Thn_n ?_)
          obtain ⟨hok, rfl, rfl⟩ := deep_at (n := sizes (t.subs.take i)) hr (by omega)
          have hst := sizes_take (l := t.subs) (i := i) (by omega)
          have hdt := depths_take (l := t.subs) (i := i) (by omega)
          have h1 := hok.1
          exact ⟨i + 1, ⟨(rfl), (rfl), (intc (by omega)), (intc (by omega)), (by first | rfl | exact intc (by omega)), trivial⟩, ⟨by omega, by omega, by omega, hS⟩, by omega⟩
    · refine CW.exit (Thn_x (Thn_x (Blk_x (Thn_n ?_))))
      refine CW.seq ?_
      refine CW.region ?_
      refine WL.step rfl (Stp.res rfl rfl (Res.move rfl rfl) ?_)
      refine WL.step rfl (Stp.res rfl rfl (Res.cast (Res.add rfl rfl rfl (by omega)) (show _ = (.int .i64 ((depths (t.subs.take i) + 1 : Nat) : Int) : Value) from congrArg (Value.int .i64) (by omega))) ?_)
      refine WL.step rfl (Stp.res rfl rfl (Res.move rfl rfl) ?_)
      refine WL.step rfl (Stp.res rfl rfl (Res.assign rfl rfl) ?_)
      refine WL.step rfl (Stp.res rfl rfl (Res.assign rfl rfl) ?_)
      refine WL.nil (Thn_n ?_)
      refine CW.ret ?_
      have hle := sizes_le t.subs i
      have hge := sizes_take_ge (l := t.subs) (i := i) hi
      obtain rfl : i = t.subs.length := by omega
      rw [List.take_length] at *
      exact fq_tmp2 rfl rfl rfl ⟨M, (hS.known hG2.1), PH.le.refl _, Fresh.refl _ _, rfl, ⟨_, _, rfl, .inl ⟨deep_yes hdp (by omega), (depth_eq t).symm, (size_eq t).symm⟩⟩⟩
theorem deep_ok (t : T) : DeepC 68 t := indS (p := fun t => DeepC 68 t) (fun t ih => deep_step t ih) t
theorem small_ok (t : T) (da1 : Option Addr) (dc1 : Nat) (la1 : Option Addr) (lc1 : Nat) (w0 : World) (M : PH) (hM : On M w0) (hd1 : Bs M (.slice da1 t.data.length dc1) t.data) (hs1 : Ts M (.slice la1 t.subs.length lc1) t.subs) : Ok Tryz.prog 60 #[.agg (TV t da1 dc1 la1 lc1)] w0 M (fun M' r => M = M' ∧ r = .bool (decide (Small t))) := by
  have hS := hM.st
  refine enterB (l := [.agg (TV (t) da1 dc1 la1 lc1)]) 16 func60 rfl ntmps60 rfl ?_
  refine CW.seq ?_
  refine CW.region ?_
  refine WL.step rfl (Stp.boxA (cs := TV (t) da1 dc1 la1 lc1) rfl rfl rfl rfl hS ?_)
  intro b1_0 w hbb1_0 hS hkp hnw
  obtain ⟨M2, hG2, hbb1_0_2, hS⟩ : ∃ Mx, Grow w0.heap.size M Mx ∧ Kb Mx b1_0 (.cells (TV (t) da1 dc1 la1 lc1) 32 (0, 0)) ∧ St w0 w Mx ([]) := by
    have hF := hS.freezeG (i := 0) rfl hbb1_0
    exact ⟨_, hF.2, PH.add_self _ _ _, hF.1⟩
  refine WL.step rfl (Stp.res rfl rfl (Res.assign rfl rfl) ?_)
  refine WL.nil (Thn_n ?_)
  refine CW.seq ?_
  refine CW.region ?_
  refine WL.step rfl (Stp.res rfl rfl (Res.loadAll (cs := TV (t) da1 dc1 la1 lc1) rfl rfl underlying32 rfl sz32 (hS.on _ _ hbb1_0_2)) ?_)
  refine WL.step rfl (Stp.callG (args := [.agg (TV (t) da1 dc1 la1 lc1), .int .i64 ((8 : Nat) : Int)]) rfl rfl rfl cal68 rfl rfl hS (deep_ok t _ _ _ _ (8) _ _ hS.on (by omega) (hd1.mono hG2.1) (hs1.mono hG2.1)) ?_)
  rintro _ w _ hS _ ⟨rfl, ad3, bd3, rfl, hd3⟩
  have hr := hd3
  obtain ⟨va, hva⟩ : ∃ z, z = ad3 := ⟨_, rfl⟩
  obtain ⟨vb, hvb⟩ : ∃ z, z = bd3 := ⟨_, rfl⟩
  rw [← hva, ← hvb] at hr
  have hr9 := deep_le hr
  refine WL.step rfl (Stp.res rfl rfl (Res.move rfl rfl) ?_)
  refine WL.step rfl (Stp.res rfl rfl (Res.extract (l := [_, _]) rfl rfl rfl) ?_)
  refine WL.step rfl (Stp.res rfl rfl (Res.extract (l := [_, _]) rfl rfl rfl) ?_)
  refine WL.step rfl (Stp.res rfl rfl (Res.assign rfl rfl) ?_)
  refine WL.step rfl (Stp.res rfl rfl (Res.assign rfl rfl) ?_)
  refine WL.nil (Thn_n ?_)
  refine CW.seq ?_
  refine CW.region ?_
  refine WL.step rfl (Stp.res rfl rfl (Res.move rfl rfl) ?_)
  refine WL.step rfl (Stp.res rfl rfl (Res.leq rfl rfl rfl) ?_)
  refine WL.step rfl (Stp.res rfl rfl (Res.move rfl rfl) ?_)
  by_cases hg4 : ((ad3 : Nat) : Int) ≤ ((8 : Nat) : Int)
  · refine WL.stepG 2 true rfl rfl rfl (bT hg4) (Stp.res rfl rfl (Res.move rfl rfl) ?_)
    refine WL.stepG 2 true rfl rfl rfl (bT hg4) (Stp.res rfl rfl (Res.leq rfl rfl rfl) ?_)
    refine WL.step rfl (Stp.res rfl rfl (Res.pickT rfl (bT hg4) rfl) ?_)
    refine WL.step rfl (Stp.res rfl rfl (Res.assign rfl rfl) ?_)
    refine WL.nil (Thn_n ?_)
    refine CW.ret ?_
    have hsm := small_of hr
    exact fq_tmp rfl rfl ⟨M, (hS.known hG2.1), PH.le.refl _, Fresh.refl _ _, rfl, (congrArg Value.bool (decide_eq_decide.2 ⟨fun h => hsm.1 ⟨by omega, by omega⟩, fun h => by have := hsm.2 h; omega⟩))⟩
  · refine WL.skipG 2 true rfl rfl rfl (bF hg4) rfl rfl ?_
    refine WL.skipG 2 true rfl rfl rfl (bF hg4) rfl rfl ?_
    refine WL.step rfl (Stp.res rfl rfl (Res.pickF rfl (bF hg4) rfl) ?_)
    refine WL.step rfl (Stp.res rfl rfl (Res.assign rfl rfl) ?_)
    refine WL.nil (Thn_n ?_)
    refine CW.ret ?_
    have hsm := small_of hr
    exact fq_tmp rfl rfl ⟨M, (hS.known hG2.1), PH.le.refl _, Fresh.refl _ _, rfl, (congrArg Value.bool ((decide_eq_false (fun h => by have := hsm.2 h; omega)).symm))⟩
end Go.Proofs.YtcmgimicdcchlaaGreatDoor
set_option linter.unusedSimpArgs false
set_option linter.unusedVariables false
set_option maxRecDepth 20000
namespace Go.Proofs.YtcmgimicdcchlaaGreatDoor
open Go.Proofs.Tryz
open Go Go.E Go.Trm Go.RowKit Go.Extern.Stop Go.Stop Go.Extern
def BadE (M : PH) (v : Value) (z : Int) : Prop := ∃ (e : Nat) (k : Int), v = .iface 128 (.pointer (some ⟨e, 0, none⟩)) ∧ Kb M e (.cells #[.int .i64 k, .int .i64 z] 130 (0, 0))
theorem BadE.mono {M M' : PH} {v : Value} {z : Int} (h : BadE M v z) (hl : M.le M') : BadE M' v z := by
  obtain ⟨e, k, h1, h2⟩ := h
  exact ⟨e, k, h1, h2.mono hl⟩
def GE (M : PH) : Prop := ∃ T fr, M 0 = some (.cells #[.iface 211 (.agg #[.pointer (some ⟨5, 86, none⟩)])] T fr)
theorem GE.mono {M M' : PH} (h : GE M) (hl : M.le M') : GE M' := by
  obtain ⟨T, fr, h⟩ := h
  exact ⟨T, fr, hl _ _ h⟩
theorem cal93 : Callable Tryz.prog 93 := ⟨Tryz.f93, func93, rfl, by kernel_rfl⟩
theorem sz128 : (Tryz.prog.info? 128).map (·.size) = some 1 := by kernel_rfl
theorem zt128 : (Tryz.prog.info? 128).map (·.zero) = some (some (.pointer none)) := by kernel_rfl
theorem shaped_ok (t : T) (da1 : Option Addr) (dc1 : Nat) (la1 : Option Addr) (lc1 : Nat) (w0 : World) (M : PH) (hM : On M w0) (hd1 : Bs M (.slice da1 t.data.length dc1) t.data) (hs1 : Ts M (.slice la1 t.subs.length lc1) t.subs) : Ok Tryz.prog 100 #[.agg (TV t da1 dc1 la1 lc1)] w0 M (fun M' r => M = M' ∧ r = .bool (decide (Shape t))) := by
  have hS := hM.st
  refine enterB (l := [.agg (TV (t) da1 dc1 la1 lc1)]) 93 func100 rfl ntmps100 rfl ?_
  refine CW.seq ?_
  refine CW.region ?_
  refine WL.step rfl (Stp.boxA (cs := TV (t) da1 dc1 la1 lc1) rfl rfl rfl rfl hS ?_)
  intro b1_0 w hbb1_0 hS hkp hnw
  obtain ⟨M2, hG2, hbb1_0_2, hS⟩ : ∃ Mx, Grow w0.heap.size M Mx ∧ Kb Mx b1_0 (.cells (TV (t) da1 dc1 la1 lc1) 35 (0, 0)) ∧ St w0 w Mx ([]) := by
    have hF := hS.freezeG (i := 0) rfl hbb1_0
    exact ⟨_, hF.2, PH.add_self _ _ _, hF.1⟩
  refine WL.step rfl (Stp.res rfl rfl (Res.assign rfl rfl) ?_)
  refine WL.nil (Thn_n ?_)
  refine CW.seq ?_
  refine CW.region ?_
  refine WL.step rfl (Stp.res rfl rfl (Res.fieldA rfl rfl underlying35 rfl (show SZ Tryz.prog _ 1 from sz30) (by decide)) ?_)
  refine WL.step rfl (Stp.res rfl rfl (Res.load1 (v := .slice (da1) (t.data.length) (dc1)) rfl rfl underlying30 rfl (hS.cell (PH.cell_of hbb1_0_2 rfl))) ?_)
  refine WL.step rfl (Stp.res rfl rfl (Res.len rfl rfl rfl rfl underlying30) ?_)
  refine WL.step rfl (Stp.res rfl rfl (Res.eql rfl rfl rfl) ?_)
  refine WL.step rfl (Stp.res rfl rfl (Res.assign rfl rfl) ?_)
  refine WL.nil (Thn_n ?_)
  refine CW.seq ?_
  refine CW.region ?_
  refine WL.step rfl (Stp.res rfl rfl (Res.fieldA rfl rfl underlying35 rfl (show SZ Tryz.prog _ 1 from sz9) (by decide)) ?_)
  refine WL.step rfl (Stp.res rfl rfl (Res.load1 (v := Go.E.str (t.name)) rfl rfl underlying9 rfl (hS.cell (PH.cell_of hbb1_0_2 rfl))) ?_)
  refine WL.step rfl (Stp.res rfl rfl (Res.eqlS (a := t.name) (b := []) rfl rfl rfl) ?_)
  refine WL.step rfl (Stp.res rfl rfl (Res.assign rfl rfl) ?_)
  refine WL.nil (Thn_n ?_)
  refine CW.seq ?_
  refine CW.seq ?_
  refine CW.region ?_
  refine WL.step rfl (Stp.res rfl rfl (Res.fieldA rfl rfl underlying35 rfl (show SZ Tryz.prog _ 1 from sz3) (by decide)) ?_)
  refine WL.step rfl (Stp.res rfl rfl (Res.load1 (v := .int .i64 (t.kind)) rfl rfl underlying3 rfl (hS.cell (PH.cell_of hbb1_0_2 rfl))) ?_)
  refine WL.nil (Thn_n ?_)
  refine CW.block ?_
  refine CW.seq ?_
  refine CW.region ?_
  refine WL.step rfl (Stp.res rfl rfl (Res.eql rfl rfl rfl) ?_)
  refine WL.step rfl (Stp.res rfl rfl (Res.assign rfl rfl) ?_)
  refine WL.nil (Thn_n ?_)
  refine CW.ite rfl (fun hc3 => ?_) (fun hc3 => ?_)
  · refine CW.seq ?_
    refine CW.region ?_
    refine WL.step rfl (Stp.res rfl rfl (Res.move rfl rfl) ?_)
    refine WL.step rfl (Stp.res rfl rfl (Res.move rfl rfl) ?_)
    by_cases hg4 : t.name = []
    · refine WL.stepG 1 true rfl rfl rfl (bT hg4) (Stp.res rfl rfl (Res.fieldA rfl rfl underlying35 rfl (show SZ Tryz.prog _ 1 from sz3) (by decide)) ?_)
      refine WL.stepG 1 true rfl rfl rfl (bT hg4) (Stp.res rfl rfl (Res.load1 (v := .int .i64 (t.num)) rfl rfl underlying3 rfl (hS.cell (PH.cell_of hbb1_0_2 rfl))) ?_)
      refine WL.stepG 1 true rfl rfl rfl (bT hg4) (Stp.res rfl rfl (Res.eql rfl rfl rfl) ?_)
      refine WL.step rfl (Stp.res rfl rfl (Res.pickT rfl (bT hg4) rfl) ?_)
      refine WL.step rfl (Stp.res rfl rfl (Res.move rfl rfl) ?_)
      by_cases hg5 : (t.num) = ((0 : Nat) : Int)
      · refine WL.stepG 6 true rfl rfl rfl (bT hg5) (Stp.res rfl rfl (Res.fieldA rfl rfl underlying35 rfl (show SZ Tryz.prog _ 1 from sz22) (by decide)) ?_)
        refine WL.stepG 6 true rfl rfl rfl (bT hg5) (Stp.res rfl rfl (Res.load1 (v := .slice (la1) (t.subs.length) (lc1)) rfl rfl underlying22 rfl (hS.cell (PH.cell_of hbb1_0_2 rfl))) ?_)
        refine WL.stepG 6 true rfl rfl rfl (bT hg5) (Stp.res rfl rfl (Res.len rfl rfl rfl rfl underlying22) ?_)
        refine WL.stepG 6 true rfl rfl rfl (bT hg5) (Stp.res rfl rfl (Res.eql rfl rfl rfl) ?_)
        refine WL.step rfl (Stp.res rfl rfl (Res.pickT rfl (bT hg5) rfl) ?_)
        refine WL.step rfl (Stp.res rfl rfl (Res.assign rfl rfl) ?_)
        refine WL.nil (Thn_n ?_)
        refine CW.ret (Blk_r (Thn_r ?_))
        exact fq_tmp rfl rfl ⟨M, (hS.known hG2.1), PH.le.refl _, Fresh.refl _ _, rfl, (congrArg Value.bool (decide_eq_decide.2 ⟨fun h => (shape1 (by omega)).2 ⟨(by first | assumption | omega), (by first | assumption | omega), (by first | assumption | omega)⟩, fun h => by have h9 := (shape1 (by omega)).1 h; omega⟩))⟩
      · refine WL.skipG 6 true rfl rfl rfl (bF hg5) rfl rfl ?_
        refine WL.skipG 6 true rfl rfl rfl (bF hg5) rfl rfl ?_
        refine WL.skipG 6 true rfl rfl rfl (bF hg5) rfl rfl ?_
        refine WL.skipG 6 true rfl rfl rfl (bF hg5) rfl rfl ?_
        refine WL.step rfl (Stp.res rfl rfl (Res.pickF rfl (bF hg5) rfl) ?_)
        refine WL.step rfl (Stp.res rfl rfl (Res.assign rfl rfl) ?_)
        refine WL.nil (Thn_n ?_)
        refine CW.ret (Blk_r (Thn_r ?_))
        exact fq_tmp rfl rfl ⟨M, (hS.known hG2.1), PH.le.refl _, Fresh.refl _ _, rfl, (congrArg Value.bool ((decide_eq_false (fun h => by have h9 := (shape1 (by omega)).1 h; first | omega | exact absurd h9.1 (by assumption) | exact absurd h9.2.1 (by assumption))).symm))⟩
    · refine WL.skipG 1 true rfl rfl rfl (bF hg4) rfl rfl ?_
      refine WL.skipG 1 true rfl rfl rfl (bF hg4) rfl rfl ?_
      refine WL.skipG 1 true rfl rfl rfl (bF hg4) rfl rfl ?_
      refine WL.step rfl (Stp.res rfl rfl (Res.pickF rfl (bF hg4) rfl) ?_)
      refine WL.step rfl (Stp.res rfl rfl (Res.move rfl rfl) ?_)
      refine WL.skipG 6 true rfl rfl rfl rfl rfl rfl ?_
      refine WL.skipG 6 true rfl rfl rfl rfl rfl rfl ?_
      refine WL.skipG 6 true rfl rfl rfl rfl rfl rfl ?_
      refine WL.skipG 6 true rfl rfl rfl rfl rfl rfl ?_
      refine WL.step rfl (Stp.res rfl rfl (Res.pickF rfl rfl rfl) ?_)
      refine WL.step rfl (Stp.res rfl rfl (Res.assign rfl rfl) ?_)
      refine WL.nil (Thn_n ?_)
      refine CW.ret (Blk_r (Thn_r ?_))
      exact fq_tmp rfl rfl ⟨M, (hS.known hG2.1), PH.le.refl _, Fresh.refl _ _, rfl, (congrArg Value.bool ((decide_eq_false (fun h => by have h9 := (shape1 (by omega)).1 h; first | omega | exact absurd h9.1 (by assumption) | exact absurd h9.2.1 (by assumption))).symm))⟩
  · refine CW.seq ?_
    refine CW.region ?_
    refine WL.step rfl (Stp.res rfl rfl (Res.eql rfl rfl rfl) ?_)
    refine WL.step rfl (Stp.res rfl rfl (Res.assign rfl rfl) ?_)
    refine WL.nil (Thn_n ?_)
    refine CW.ite rfl (fun hc6 => ?_) (fun hc6 => ?_)
    · refine CW.seq ?_
      refine CW.region ?_
      refine WL.step rfl (Stp.res rfl rfl (Res.move rfl rfl) ?_)
      refine WL.step rfl (Stp.res rfl rfl (Res.move rfl rfl) ?_)
      by_cases hg7 : ((t.data.length : Nat) : Int) = ((0 : Nat) : Int)
      · refine WL.stepG 1 true rfl rfl rfl (bT hg7) (Stp.res rfl rfl (Res.fieldA rfl rfl underlying35 rfl (show SZ Tryz.prog _ 1 from sz3) (by decide)) ?_)
        refine WL.stepG 1 true rfl rfl rfl (bT hg7) (Stp.res rfl rfl (Res.load1 (v := .int .i64 (t.num)) rfl rfl underlying3 rfl (hS.cell (PH.cell_of hbb1_0_2 rfl))) ?_)
        refine WL.stepG 1 true rfl rfl rfl (bT hg7) (Stp.res rfl rfl (Res.eql rfl rfl rfl) ?_)
        refine WL.step rfl (Stp.res rfl rfl (Res.pickT rfl (bT hg7) rfl) ?_)
        refine WL.step rfl (Stp.res rfl rfl (Res.move rfl rfl) ?_)
        by_cases hg8 : (t.num) = ((0 : Nat) : Int)
        · refine WL.stepG 6 true rfl rfl rfl (bT hg8) (Stp.res rfl rfl (Res.fieldA rfl rfl underlying35 rfl (show SZ Tryz.prog _ 1 from sz22) (by decide)) ?_)
          refine WL.stepG 6 true rfl rfl rfl (bT hg8) (Stp.res rfl rfl (Res.load1 (v := .slice (la1) (t.subs.length) (lc1)) rfl rfl underlying22 rfl (hS.cell (PH.cell_of hbb1_0_2 rfl))) ?_)
          refine WL.stepG 6 true rfl rfl rfl (bT hg8) (Stp.res rfl rfl (Res.len rfl rfl rfl rfl underlying22) ?_)
          refine WL.stepG 6 true rfl rfl rfl (bT hg8) (Stp.res rfl rfl (Res.eql rfl rfl rfl) ?_)
          refine WL.step rfl (Stp.res rfl rfl (Res.pickT rfl (bT hg8) rfl) ?_)
          refine WL.step rfl (Stp.res rfl rfl (Res.assign rfl rfl) ?_)
          refine WL.nil (Thn_n ?_)
          refine CW.ret (Blk_r (Thn_r ?_))
          exact fq_tmp rfl rfl ⟨M, (hS.known hG2.1), PH.le.refl _, Fresh.refl _ _, rfl, (congrArg Value.bool (decide_eq_decide.2 ⟨fun h => (shape2 (by omega)).2 ⟨(by first | assumption | omega), (by first | assumption | omega), (by first | assumption | omega)⟩, fun h => by have h9 := (shape2 (by omega)).1 h; omega⟩))⟩
        · refine WL.skipG 6 true rfl rfl rfl (bF hg8) rfl rfl ?_
          refine WL.skipG 6 true rfl rfl rfl (bF hg8) rfl rfl ?_
          refine WL.skipG 6 true rfl rfl rfl (bF hg8) rfl rfl ?_
          refine WL.skipG 6 true rfl rfl rfl (bF hg8) rfl rfl ?_
          refine WL.step rfl (Stp.res rfl rfl (Res.pickF rfl (bF hg8) rfl) ?_)
          refine WL.step rfl (Stp.res rfl rfl (Res.assign rfl rfl) ?_)
          refine WL.nil (Thn_n ?_)
          refine CW.ret (Blk_r (Thn_r ?_))
          exact fq_tmp rfl rfl ⟨M, (hS.known hG2.1), PH.le.refl _, Fresh.refl _ _, rfl, (congrArg Value.bool ((decide_eq_false (fun h => by have h9 := (shape2 (by omega)).1 h; first | omega | exact absurd h9.1 (by assumption) | exact absurd h9.2.1 (by assumption))).symm))⟩
      · refine WL.skipG 1 true rfl rfl rfl (bF hg7) rfl rfl ?_
        refine WL.skipG 1 true rfl rfl rfl (bF hg7) rfl rfl ?_
        refine WL.skipG 1 true rfl rfl rfl (bF hg7) rfl rfl ?_
        refine WL.step rfl (Stp.res rfl rfl (Res.pickF rfl (bF hg7) rfl) ?_)
        refine WL.step rfl (Stp.res rfl rfl (Res.move rfl rfl) ?_)
        refine WL.skipG 6 true rfl rfl rfl rfl rfl rfl ?_
        refine WL.skipG 6 true rfl rfl rfl rfl rfl rfl ?_
        refine WL.skipG 6 true rfl rfl rfl rfl rfl rfl ?_
        refine WL.skipG 6 true rfl rfl rfl rfl rfl rfl ?_
        refine WL.step rfl (Stp.res rfl rfl (Res.pickF rfl rfl rfl) ?_)
        refine WL.step rfl (Stp.res rfl rfl (Res.assign rfl rfl) ?_)
        refine WL.nil (Thn_n ?_)
        refine CW.ret (Blk_r (Thn_r ?_))
        exact fq_tmp rfl rfl ⟨M, (hS.known hG2.1), PH.le.refl _, Fresh.refl _ _, rfl, (congrArg Value.bool ((decide_eq_false (fun h => by have h9 := (shape2 (by omega)).1 h; first | omega | exact absurd h9.1 (by assumption) | exact absurd h9.2.1 (by assumption))).symm))⟩
    · refine CW.seq ?_
      refine CW.region ?_
      refine WL.step rfl (Stp.res rfl rfl (Res.eql rfl rfl rfl) ?_)
      refine WL.step rfl (Stp.res rfl rfl (Res.assign rfl rfl) ?_)
      refine WL.nil (Thn_n ?_)
      refine CW.ite rfl (fun hc9 => ?_) (fun hc9 => ?_)
      · refine CW.seq ?_
        refine CW.region ?_
        refine WL.step rfl (Stp.res rfl rfl (Res.move rfl rfl) ?_)
        refine WL.step rfl (Stp.res rfl rfl (Res.move rfl rfl) ?_)
        by_cases hg10 : ((t.data.length : Nat) : Int) = ((0 : Nat) : Int)
        · refine WL.stepG 1 true rfl rfl rfl (bT hg10) (Stp.res rfl rfl (Res.move rfl rfl) ?_)
          refine WL.step rfl (Stp.res rfl rfl (Res.pickT rfl (bT hg10) rfl) ?_)
          refine WL.step rfl (Stp.res rfl rfl (Res.move rfl rfl) ?_)
          by_cases hg11 : t.name = []
          · refine WL.stepG 4 true rfl rfl rfl (bT hg11) (Stp.res rfl rfl (Res.fieldA rfl rfl underlying35 rfl (show SZ Tryz.prog _ 1 from sz3) (by decide)) ?_)
            refine WL.stepG 4 true rfl rfl rfl (bT hg11) (Stp.res rfl rfl (Res.load1 (v := .int .i64 (t.num)) rfl rfl underlying3 rfl (hS.cell (PH.cell_of hbb1_0_2 rfl))) ?_)
            refine WL.stepG 4 true rfl rfl rfl (bT hg11) (Stp.res rfl rfl (Res.eql rfl rfl rfl) ?_)
            refine WL.step rfl (Stp.res rfl rfl (Res.pickT rfl (bT hg11) rfl) ?_)
            refine WL.step rfl (Stp.res rfl rfl (Res.assign rfl rfl) ?_)
            refine WL.nil (Thn_n ?_)
            refine CW.ret (Blk_r (Thn_r ?_))
            exact fq_tmp rfl rfl ⟨M, (hS.known hG2.1), PH.le.refl _, Fresh.refl _ _, rfl, (congrArg Value.bool (decide_eq_decide.2 ⟨fun h => (shape3 (by omega)).2 ⟨(by first | assumption | omega), (by first | assumption | omega), (by first | assumption | omega)⟩, fun h => by have h9 := (shape3 (by omega)).1 h; omega⟩))⟩
          · refine WL.skipG 4 true rfl rfl rfl (bF hg11) rfl rfl ?_
            refine WL.skipG 4 true rfl rfl rfl (bF hg11) rfl rfl ?_
            refine WL.skipG 4 true rfl rfl rfl (bF hg11) rfl rfl ?_
            refine WL.step rfl (Stp.res rfl rfl (Res.pickF rfl (bF hg11) rfl) ?_)
            refine WL.step rfl (Stp.res rfl rfl (Res.assign rfl rfl) ?_)
            refine WL.nil (Thn_n ?_)
            refine CW.ret (Blk_r (Thn_r ?_))
            exact fq_tmp rfl rfl ⟨M, (hS.known hG2.1), PH.le.refl _, Fresh.refl _ _, rfl, (congrArg Value.bool ((decide_eq_false (fun h => by have h9 := (shape3 (by omega)).1 h; first | omega | exact absurd h9.1 (by assumption) | exact absurd h9.2.1 (by assumption))).symm))⟩
        · refine WL.skipG 1 true rfl rfl rfl (bF hg10) rfl rfl ?_
          refine WL.step rfl (Stp.res rfl rfl (Res.pickF rfl (bF hg10) rfl) ?_)
          refine WL.step rfl (Stp.res rfl rfl (Res.move rfl rfl) ?_)
          refine WL.skipG 4 true rfl rfl rfl rfl rfl rfl ?_
          refine WL.skipG 4 true rfl rfl rfl rfl rfl rfl ?_
          refine WL.skipG 4 true rfl rfl rfl rfl rfl rfl ?_
          refine WL.step rfl (Stp.res rfl rfl (Res.pickF rfl rfl rfl) ?_)
          refine WL.step rfl (Stp.res rfl rfl (Res.assign rfl rfl) ?_)
          refine WL.nil (Thn_n ?_)
          refine CW.ret (Blk_r (Thn_r ?_))
          exact fq_tmp rfl rfl ⟨M, (hS.known hG2.1), PH.le.refl _, Fresh.refl _ _, rfl, (congrArg Value.bool ((decide_eq_false (fun h => by have h9 := (shape3 (by omega)).1 h; first | omega | exact absurd h9.1 (by assumption) | exact absurd h9.2.1 (by assumption))).symm))⟩
      · refine CW.seq ?_
        refine CW.region ?_
        refine WL.step rfl (Stp.res rfl rfl (Res.eql rfl rfl rfl) ?_)
        refine WL.step rfl (Stp.res rfl rfl (Res.assign rfl rfl) ?_)
        refine WL.nil (Thn_n ?_)
        refine CW.ite rfl (fun hc12 => ?_) (fun hc12 => ?_)
        · refine CW.seq ?_
          refine CW.region ?_
          refine WL.step rfl (Stp.res rfl rfl (Res.move rfl rfl) ?_)
          refine WL.step rfl (Stp.res rfl rfl (Res.move rfl rfl) ?_)
          by_cases hg13 : t.name = []
          · refine WL.stepG 1 true rfl rfl rfl (bT hg13) (Stp.res rfl rfl (Res.fieldA rfl rfl underlying35 rfl (show SZ Tryz.prog _ 1 from sz22) (by decide)) ?_)
            refine WL.stepG 1 true rfl rfl rfl (bT hg13) (Stp.res rfl rfl (Res.load1 (v := .slice (la1) (t.subs.length) (lc1)) rfl rfl underlying22 rfl (hS.cell (PH.cell_of hbb1_0_2 rfl))) ?_)
            refine WL.stepG 1 true rfl rfl rfl (bT hg13) (Stp.res rfl rfl (Res.len rfl rfl rfl rfl underlying22) ?_)
            refine WL.stepG 1 true rfl rfl rfl (bT hg13) (Stp.res rfl rfl (Res.eql rfl rfl rfl) ?_)
            refine WL.step rfl (Stp.res rfl rfl (Res.pickT rfl (bT hg13) rfl) ?_)
            refine WL.step rfl (Stp.res rfl rfl (Res.assign rfl rfl) ?_)
            refine WL.nil (Thn_n ?_)
            refine CW.ret (Blk_r (Thn_r ?_))
            exact fq_tmp rfl rfl ⟨M, (hS.known hG2.1), PH.le.refl _, Fresh.refl _ _, rfl, (congrArg Value.bool (decide_eq_decide.2 ⟨fun h => (shape4 (by omega)).2 ⟨(by first | assumption | omega), (by first | assumption | omega)⟩, fun h => by have h9 := (shape4 (by omega)).1 h; omega⟩))⟩
          · refine WL.skipG 1 true rfl rfl rfl (bF hg13) rfl rfl ?_
            refine WL.skipG 1 true rfl rfl rfl (bF hg13) rfl rfl ?_
            refine WL.skipG 1 true rfl rfl rfl (bF hg13) rfl rfl ?_
            refine WL.skipG 1 true rfl rfl rfl (bF hg13) rfl rfl ?_
            refine WL.step rfl (Stp.res rfl rfl (Res.pickF rfl (bF hg13) rfl) ?_)
            refine WL.step rfl (Stp.res rfl rfl (Res.assign rfl rfl) ?_)
            refine WL.nil (Thn_n ?_)
            refine CW.ret (Blk_r (Thn_r ?_))
            exact fq_tmp rfl rfl ⟨M, (hS.known hG2.1), PH.le.refl _, Fresh.refl _ _, rfl, (congrArg Value.bool ((decide_eq_false (fun h => by have h9 := (shape4 (by omega)).1 h; first | omega | exact absurd h9.1 (by assumption) | exact absurd h9.2.1 (by assumption))).symm))⟩
        · refine CW.seq ?_
          refine CW.region ?_
          refine WL.step rfl (Stp.res rfl rfl (Res.eql rfl rfl rfl) ?_)
          refine WL.step rfl (Stp.res rfl rfl (Res.assign rfl rfl) ?_)
          refine WL.nil (Thn_n ?_)
          refine CW.ite rfl (fun hc14 => ?_) (fun hc14 => ?_)
          · refine CW.seq ?_
            refine CW.region ?_
            refine WL.step rfl (Stp.res rfl rfl (Res.move rfl rfl) ?_)
            refine WL.step rfl (Stp.res rfl rfl (Res.move rfl rfl) ?_)
            by_cases hg15 : ((t.data.length : Nat) : Int) = ((0 : Nat) : Int)
            · refine WL.stepG 1 true rfl rfl rfl (bT hg15) (Stp.res rfl rfl (Res.move rfl rfl) ?_)
              refine WL.step rfl (Stp.res rfl rfl (Res.pickT rfl (bT hg15) rfl) ?_)
              refine WL.step rfl (Stp.res rfl rfl (Res.move rfl rfl) ?_)
              by_cases hg16 : t.name = []
              · refine WL.stepG 4 true rfl rfl rfl (bT hg16) (Stp.res rfl rfl (Res.fieldA rfl rfl underlying35 rfl (show SZ Tryz.prog _ 1 from sz3) (by decide)) ?_)
                refine WL.stepG 4 true rfl rfl rfl (bT hg16) (Stp.res rfl rfl (Res.load1 (v := .int .i64 (t.num)) rfl rfl underlying3 rfl (hS.cell (PH.cell_of hbb1_0_2 rfl))) ?_)
                refine WL.stepG 4 true rfl rfl rfl (bT hg16) (Stp.res rfl rfl (Res.eql rfl rfl rfl) ?_)
                refine WL.step rfl (Stp.res rfl rfl (Res.pickT rfl (bT hg16) rfl) ?_)
                refine WL.step rfl (Stp.res rfl rfl (Res.move rfl rfl) ?_)
                by_cases hg17 : (t.num) = ((0 : Nat) : Int)
                · refine WL.stepG 9 true rfl rfl rfl (bT hg17) (Stp.res rfl rfl (Res.fieldA rfl rfl underlying35 rfl (show SZ Tryz.prog _ 1 from sz22) (by decide)) ?_)
                  refine WL.stepG 9 true rfl rfl rfl (bT hg17) (Stp.res rfl rfl (Res.load1 (v := .slice (la1) (t.subs.length) (lc1)) rfl rfl underlying22 rfl (hS.cell (PH.cell_of hbb1_0_2 rfl))) ?_)
                  refine WL.stepG 9 true rfl rfl rfl (bT hg17) (Stp.res rfl rfl (Res.len rfl rfl rfl rfl underlying22) ?_)
                  refine WL.stepG 9 true rfl rfl rfl (bT hg17) (Stp.res rfl rfl (Res.eql rfl rfl rfl) ?_)
                  refine WL.step rfl (Stp.res rfl rfl (Res.pickT rfl (bT hg17) rfl) ?_)
                  refine WL.step rfl (Stp.res rfl rfl (Res.assign rfl rfl) ?_)
                  refine WL.nil (Thn_n ?_)
                  refine CW.ret (Blk_r (Thn_r ?_))
                  exact fq_tmp rfl rfl ⟨M, (hS.known hG2.1), PH.le.refl _, Fresh.refl _ _, rfl, (congrArg Value.bool (decide_eq_decide.2 ⟨fun h => (shape5 (by omega)).2 ⟨(by first | assumption | omega), (by first | assumption | omega), (by first | assumption | omega), (by first | assumption | omega)⟩, fun h => by have h9 := (shape5 (by omega)).1 h; omega⟩))⟩
                · refine WL.skipG 9 true rfl rfl rfl (bF hg17) rfl rfl ?_
                  refine WL.skipG 9 true rfl rfl rfl (bF hg17) rfl rfl ?_
                  refine WL.skipG 9 true rfl rfl rfl (bF hg17) rfl rfl ?_
                  refine WL.skipG 9 true rfl rfl rfl (bF hg17) rfl rfl ?_
                  refine WL.step rfl (Stp.res rfl rfl (Res.pickF rfl (bF hg17) rfl) ?_)
                  refine WL.step rfl (Stp.res rfl rfl (Res.assign rfl rfl) ?_)
                  refine WL.nil (Thn_n ?_)
                  refine CW.ret (Blk_r (Thn_r ?_))
                  exact fq_tmp rfl rfl ⟨M, (hS.known hG2.1), PH.le.refl _, Fresh.refl _ _, rfl, (congrArg Value.bool ((decide_eq_false (fun h => by have h9 := (shape5 (by omega)).1 h; first | omega | exact absurd h9.1 (by assumption) | exact absurd h9.2.1 (by assumption))).symm))⟩
              · refine WL.skipG 4 true rfl rfl rfl (bF hg16) rfl rfl ?_
                refine WL.skipG 4 true rfl rfl rfl (bF hg16) rfl rfl ?_
                refine WL.skipG 4 true rfl rfl rfl (bF hg16) rfl rfl ?_
                refine WL.step rfl (Stp.res rfl rfl (Res.pickF rfl (bF hg16) rfl) ?_)
                refine WL.step rfl (Stp.res rfl rfl (Res.move rfl rfl) ?_)
                refine WL.skipG 9 true rfl rfl rfl rfl rfl rfl ?_
                refine WL.skipG 9 true rfl rfl rfl rfl rfl rfl ?_
                refine WL.skipG 9 true rfl rfl rfl rfl rfl rfl ?_
                refine WL.skipG 9 true rfl rfl rfl rfl rfl rfl ?_
                refine WL.step rfl (Stp.res rfl rfl (Res.pickF rfl rfl rfl) ?_)
                refine WL.step rfl (Stp.res rfl rfl (Res.assign rfl rfl) ?_)
                refine WL.nil (Thn_n ?_)
                refine CW.ret (Blk_r (Thn_r ?_))
                exact fq_tmp rfl rfl ⟨M, (hS.known hG2.1), PH.le.refl _, Fresh.refl _ _, rfl, (congrArg Value.bool ((decide_eq_false (fun h => by have h9 := (shape5 (by omega)).1 h; first | omega | exact absurd h9.1 (by assumption) | exact absurd h9.2.1 (by assumption))).symm))⟩
            · refine WL.skipG 1 true rfl rfl rfl (bF hg15) rfl rfl ?_
              refine WL.step rfl (Stp.res rfl rfl (Res.pickF rfl (bF hg15) rfl) ?_)
              refine WL.step rfl (Stp.res rfl rfl (Res.move rfl rfl) ?_)
              refine WL.skipG 4 true rfl rfl rfl rfl rfl rfl ?_
              refine WL.skipG 4 true rfl rfl rfl rfl rfl rfl ?_
              refine WL.skipG 4 true rfl rfl rfl rfl rfl rfl ?_
              refine WL.step rfl (Stp.res rfl rfl (Res.pickF rfl rfl rfl) ?_)
              refine WL.step rfl (Stp.res rfl rfl (Res.move rfl rfl) ?_)
              refine WL.skipG 9 true rfl rfl rfl rfl rfl rfl ?_
              refine WL.skipG 9 true rfl rfl rfl rfl rfl rfl ?_
              refine WL.skipG 9 true rfl rfl rfl rfl rfl rfl ?_
              refine WL.skipG 9 true rfl rfl rfl rfl rfl rfl ?_
              refine WL.step rfl (Stp.res rfl rfl (Res.pickF rfl rfl rfl) ?_)
              refine WL.step rfl (Stp.res rfl rfl (Res.assign rfl rfl) ?_)
              refine WL.nil (Thn_n ?_)
              refine CW.ret (Blk_r (Thn_r ?_))
              exact fq_tmp rfl rfl ⟨M, (hS.known hG2.1), PH.le.refl _, Fresh.refl _ _, rfl, (congrArg Value.bool ((decide_eq_false (fun h => by have h9 := (shape5 (by omega)).1 h; first | omega | exact absurd h9.1 (by assumption) | exact absurd h9.2.1 (by assumption))).symm))⟩
          · refine CW.seq ?_
            refine CW.region ?_
            refine WL.step rfl (Stp.res rfl rfl (Res.eql rfl rfl rfl) ?_)
            refine WL.step rfl (Stp.res rfl rfl (Res.assign rfl rfl) ?_)
            refine WL.nil (Thn_n ?_)
            refine CW.ite rfl (fun hc18 => ?_) (fun hc18 => ?_)
            · refine CW.seq ?_
              refine CW.region ?_
              refine WL.step rfl (Stp.res rfl rfl (Res.move rfl rfl) ?_)
              refine WL.step rfl (Stp.res rfl rfl (Res.move rfl rfl) ?_)
              by_cases hg19 : ((t.data.length : Nat) : Int) = ((0 : Nat) : Int)
              · refine WL.stepG 1 true rfl rfl rfl (bT hg19) (Stp.res rfl rfl (Res.fieldA rfl rfl underlying35 rfl (show SZ Tryz.prog _ 1 from sz3) (by decide)) ?_)
                refine WL.stepG 1 true rfl rfl rfl (bT hg19) (Stp.res rfl rfl (Res.load1 (v := .int .i64 (t.num)) rfl rfl underlying3 rfl (hS.cell (PH.cell_of hbb1_0_2 rfl))) ?_)
                refine WL.stepG 1 true rfl rfl rfl (bT hg19) (Stp.res rfl rfl (Res.eql rfl rfl rfl) ?_)
                refine WL.step rfl (Stp.res rfl rfl (Res.pickT rfl (bT hg19) rfl) ?_)
                refine WL.step rfl (Stp.res rfl rfl (Res.move rfl rfl) ?_)
                by_cases hg20 : (t.num) = ((0 : Nat) : Int)
                · refine WL.stepG 6 true rfl rfl rfl (bT hg20) (Stp.res rfl rfl (Res.fieldA rfl rfl underlying35 rfl (show SZ Tryz.prog _ 1 from sz22) (by decide)) ?_)
                  refine WL.stepG 6 true rfl rfl rfl (bT hg20) (Stp.res rfl rfl (Res.load1 (v := .slice (la1) (t.subs.length) (lc1)) rfl rfl underlying22 rfl (hS.cell (PH.cell_of hbb1_0_2 rfl))) ?_)
                  refine WL.stepG 6 true rfl rfl rfl (bT hg20) (Stp.res rfl rfl (Res.len rfl rfl rfl rfl underlying22) ?_)
                  refine WL.stepG 6 true rfl rfl rfl (bT hg20) (Stp.res rfl rfl (Res.eql rfl rfl rfl) ?_)
                  refine WL.step rfl (Stp.res rfl rfl (Res.pickT rfl (bT hg20) rfl) ?_)
                  refine WL.step rfl (Stp.res rfl rfl (Res.assign rfl rfl) ?_)
                  refine WL.nil (Thn_n ?_)
                  refine CW.ret (Blk_r (Thn_r ?_))
                  exact fq_tmp rfl rfl ⟨M, (hS.known hG2.1), PH.le.refl _, Fresh.refl _ _, rfl, (congrArg Value.bool (decide_eq_decide.2 ⟨fun h => (shape6 (by omega)).2 ⟨(by first | assumption | omega), (by first | assumption | omega), (by first | assumption | omega)⟩, fun h => by have h9 := (shape6 (by omega)).1 h; omega⟩))⟩
                · refine WL.skipG 6 true rfl rfl rfl (bF hg20) rfl rfl ?_
                  refine WL.skipG 6 true rfl rfl rfl (bF hg20) rfl rfl ?_
                  refine WL.skipG 6 true rfl rfl rfl (bF hg20) rfl rfl ?_
                  refine WL.skipG 6 true rfl rfl rfl (bF hg20) rfl rfl ?_
                  refine WL.step rfl (Stp.res rfl rfl (Res.pickF rfl (bF hg20) rfl) ?_)
                  refine WL.step rfl (Stp.res rfl rfl (Res.assign rfl rfl) ?_)
                  refine WL.nil (Thn_n ?_)
                  refine CW.ret (Blk_r (Thn_r ?_))
                  exact fq_tmp rfl rfl ⟨M, (hS.known hG2.1), PH.le.refl _, Fresh.refl _ _, rfl, (congrArg Value.bool ((decide_eq_false (fun h => by have h9 := (shape6 (by omega)).1 h; first | omega | exact absurd h9.1 (by assumption) | exact absurd h9.2.1 (by assumption))).symm))⟩
              · refine WL.skipG 1 true rfl rfl rfl (bF hg19) rfl rfl ?_
                refine WL.skipG 1 true rfl rfl rfl (bF hg19) rfl rfl ?_
                refine WL.skipG 1 true rfl rfl rfl (bF hg19) rfl rfl ?_
                refine WL.step rfl (Stp.res rfl rfl (Res.pickF rfl (bF hg19) rfl) ?_)
                refine WL.step rfl (Stp.res rfl rfl (Res.move rfl rfl) ?_)
                refine WL.skipG 6 true rfl rfl rfl rfl rfl rfl ?_
                refine WL.skipG 6 true rfl rfl rfl rfl rfl rfl ?_
                refine WL.skipG 6 true rfl rfl rfl rfl rfl rfl ?_
                refine WL.skipG 6 true rfl rfl rfl rfl rfl rfl ?_
                refine WL.step rfl (Stp.res rfl rfl (Res.pickF rfl rfl rfl) ?_)
                refine WL.step rfl (Stp.res rfl rfl (Res.assign rfl rfl) ?_)
                refine WL.nil (Thn_n ?_)
                refine CW.ret (Blk_r (Thn_r ?_))
                exact fq_tmp rfl rfl ⟨M, (hS.known hG2.1), PH.le.refl _, Fresh.refl _ _, rfl, (congrArg Value.bool ((decide_eq_false (fun h => by have h9 := (shape6 (by omega)).1 h; first | omega | exact absurd h9.1 (by assumption) | exact absurd h9.2.1 (by assumption))).symm))⟩
            · refine CW.skip (Blk_n (Thn_n ?_))
              refine CW.seq ?_
              refine CW.region ?_
              refine WL.step rfl (Stp.res rfl rfl (Res.assign rfl rfl) ?_)
              refine WL.nil (Thn_n ?_)
              refine CW.ret ?_
              exact fq_tmp rfl rfl ⟨M, (hS.known hG2.1), PH.le.refl _, Fresh.refl _ _, rfl, (congrArg Value.bool (decide_eq_false (shape0 (by omega) (by omega) (by omega) (by omega) (by omega) (by omega))).symm)⟩
theorem shape_ok (t : T) (da1 : Option Addr) (dc1 : Nat) (la1 : Option Addr) (lc1 : Nat) (w0 : World) (M : PH) (hM : On M w0) (hd1 : Bs M (.slice da1 t.data.length dc1) t.data) (hs1 : Ts M (.slice la1 t.subs.length lc1) t.subs) : Ok Tryz.prog 106 #[.agg (TV t da1 dc1 la1 lc1)] w0 M (fun M' r => M = M' ∧ r = .bool (decide (Shape t))) := by
  have hS := hM.st
  refine enterB (l := [.agg (TV (t) da1 dc1 la1 lc1)]) 104 func106 rfl ntmps106 rfl ?_
  refine CW.seq ?_
  refine CW.region ?_
  refine WL.step rfl (Stp.boxA (cs := TV (t) da1 dc1 la1 lc1) rfl rfl rfl rfl hS ?_)
  intro b1_0 w hbb1_0 hS hkp hnw
  obtain ⟨M2, hG2, hbb1_0_2, hS⟩ : ∃ Mx, Grow w0.heap.size M Mx ∧ Kb Mx b1_0 (.cells (TV (t) da1 dc1 la1 lc1) 32 (0, 0)) ∧ St w0 w Mx ([]) := by
    have hF := hS.freezeG (i := 0) rfl hbb1_0
    exact ⟨_, hF.2, PH.add_self _ _ _, hF.1⟩
  refine WL.step rfl (Stp.res rfl rfl (Res.assign rfl rfl) ?_)
  refine WL.nil (Thn_n ?_)
  refine CW.seq ?_
  refine CW.seq ?_
  refine CW.region ?_
  refine WL.step rfl (Stp.res rfl rfl (Res.fieldA rfl rfl underlying32 rfl (show SZ Tryz.prog _ 1 from sz3) (by decide)) ?_)
  refine WL.step rfl (Stp.res rfl rfl (Res.load1 (v := .int .i64 (t.kind)) rfl rfl underlying3 rfl (hS.cell (PH.cell_of hbb1_0_2 rfl))) ?_)
  refine WL.nil (Thn_n ?_)
  refine CW.block ?_
  refine CW.seq ?_
  refine CW.region ?_
  refine WL.step rfl (Stp.res rfl rfl (Res.eql rfl rfl rfl) ?_)
  refine WL.step rfl (Stp.res rfl rfl (Res.assign rfl rfl) ?_)
  refine WL.nil (Thn_n ?_)
  refine CW.ite rfl (fun hc3 => ?_) (fun hc3 => ?_)
  · refine CW.seq ?_
    refine CW.region ?_
    refine WL.step rfl (Stp.res rfl rfl (Res.fieldA rfl rfl underlying32 rfl (show SZ Tryz.prog _ 1 from sz9) (by decide)) ?_)
    refine WL.step rfl (Stp.res rfl rfl (Res.load1 (v := Go.E.str (t.name)) rfl rfl underlying9 rfl (hS.cell (PH.cell_of hbb1_0_2 rfl))) ?_)
    refine WL.step rfl (Stp.res rfl rfl (Res.eqlS (a := t.name) (b := []) rfl rfl rfl) ?_)
    refine WL.step rfl (Stp.res rfl rfl (Res.move rfl rfl) ?_)
    by_cases hg4 : t.name = []
    · refine WL.stepG 3 true rfl rfl rfl (bT hg4) (Stp.res rfl rfl (Res.fieldA rfl rfl underlying32 rfl (show SZ Tryz.prog _ 1 from sz3) (by decide)) ?_)
      refine WL.stepG 3 true rfl rfl rfl (bT hg4) (Stp.res rfl rfl (Res.load1 (v := .int .i64 (t.num)) rfl rfl underlying3 rfl (hS.cell (PH.cell_of hbb1_0_2 rfl))) ?_)
      refine WL.stepG 3 true rfl rfl rfl (bT hg4) (Stp.res rfl rfl (Res.eql rfl rfl rfl) ?_)
      refine WL.step rfl (Stp.res rfl rfl (Res.pickT rfl (bT hg4) rfl) ?_)
      refine WL.step rfl (Stp.res rfl rfl (Res.move rfl rfl) ?_)
      by_cases hg5 : (t.num) = ((0 : Nat) : Int)
      · refine WL.stepG 8 true rfl rfl rfl (bT hg5) (Stp.res rfl rfl (Res.fieldA rfl rfl underlying32 rfl (show SZ Tryz.prog _ 1 from sz24) (by decide)) ?_)
        refine WL.stepG 8 true rfl rfl rfl (bT hg5) (Stp.res rfl rfl (Res.load1 (v := .slice (la1) (t.subs.length) (lc1)) rfl rfl underlying24 rfl (hS.cell (PH.cell_of hbb1_0_2 rfl))) ?_)
        refine WL.stepG 8 true rfl rfl rfl (bT hg5) (Stp.res rfl rfl (Res.len rfl rfl rfl rfl underlying24) ?_)
        refine WL.stepG 8 true rfl rfl rfl (bT hg5) (Stp.res rfl rfl (Res.eql rfl rfl rfl) ?_)
        refine WL.step rfl (Stp.res rfl rfl (Res.pickT rfl (bT hg5) rfl) ?_)
        refine WL.step rfl (Stp.res rfl rfl (Res.assign rfl rfl) ?_)
        refine WL.nil (Thn_n ?_)
        refine CW.ret (Blk_r (Thn_r ?_))
        exact fq_tmp rfl rfl ⟨M, (hS.known hG2.1), PH.le.refl _, Fresh.refl _ _, rfl, (congrArg Value.bool (decide_eq_decide.2 ⟨fun h => (shape1 (by omega)).2 ⟨(by first | assumption | omega), (by first | assumption | omega), (by first | assumption | omega)⟩, fun h => by have h9 := (shape1 (by omega)).1 h; omega⟩))⟩
      · refine WL.skipG 8 true rfl rfl rfl (bF hg5) rfl rfl ?_
        refine WL.skipG 8 true rfl rfl rfl (bF hg5) rfl rfl ?_
        refine WL.skipG 8 true rfl rfl rfl (bF hg5) rfl rfl ?_
        refine WL.skipG 8 true rfl rfl rfl (bF hg5) rfl rfl ?_
        refine WL.step rfl (Stp.res rfl rfl (Res.pickF rfl (bF hg5) rfl) ?_)
        refine WL.step rfl (Stp.res rfl rfl (Res.assign rfl rfl) ?_)
        refine WL.nil (Thn_n ?_)
        refine CW.ret (Blk_r (Thn_r ?_))
        exact fq_tmp rfl rfl ⟨M, (hS.known hG2.1), PH.le.refl _, Fresh.refl _ _, rfl, (congrArg Value.bool ((decide_eq_false (fun h => by have h9 := (shape1 (by omega)).1 h; first | omega | exact absurd h9.1 (by assumption) | exact absurd h9.2.1 (by assumption))).symm))⟩
    · refine WL.skipG 3 true rfl rfl rfl (bF hg4) rfl rfl ?_
      refine WL.skipG 3 true rfl rfl rfl (bF hg4) rfl rfl ?_
      refine WL.skipG 3 true rfl rfl rfl (bF hg4) rfl rfl ?_
      refine WL.step rfl (Stp.res rfl rfl (Res.pickF rfl (bF hg4) rfl) ?_)
      refine WL.step rfl (Stp.res rfl rfl (Res.move rfl rfl) ?_)
      refine WL.skipG 8 true rfl rfl rfl rfl rfl rfl ?_
      refine WL.skipG 8 true rfl rfl rfl rfl rfl rfl ?_
      refine WL.skipG 8 true rfl rfl rfl rfl rfl rfl ?_
      refine WL.skipG 8 true rfl rfl rfl rfl rfl rfl ?_
      refine WL.step rfl (Stp.res rfl rfl (Res.pickF rfl rfl rfl) ?_)
      refine WL.step rfl (Stp.res rfl rfl (Res.assign rfl rfl) ?_)
      refine WL.nil (Thn_n ?_)
      refine CW.ret (Blk_r (Thn_r ?_))
      exact fq_tmp rfl rfl ⟨M, (hS.known hG2.1), PH.le.refl _, Fresh.refl _ _, rfl, (congrArg Value.bool ((decide_eq_false (fun h => by have h9 := (shape1 (by omega)).1 h; first | omega | exact absurd h9.1 (by assumption) | exact absurd h9.2.1 (by assumption))).symm))⟩
  · refine CW.seq ?_
    refine CW.region ?_
    refine WL.step rfl (Stp.res rfl rfl (Res.eql rfl rfl rfl) ?_)
    refine WL.step rfl (Stp.res rfl rfl (Res.assign rfl rfl) ?_)
    refine WL.nil (Thn_n ?_)
    refine CW.ite rfl (fun hc6 => ?_) (fun hc6 => ?_)
    · refine CW.seq ?_
      refine CW.region ?_
      refine WL.step rfl (Stp.res rfl rfl (Res.fieldA rfl rfl underlying32 rfl (show SZ Tryz.prog _ 1 from sz30) (by decide)) ?_)
      refine WL.step rfl (Stp.res rfl rfl (Res.load1 (v := .slice (da1) (t.data.length) (dc1)) rfl rfl underlying30 rfl (hS.cell (PH.cell_of hbb1_0_2 rfl))) ?_)
      refine WL.step rfl (Stp.res rfl rfl (Res.len rfl rfl rfl rfl underlying30) ?_)
      refine WL.step rfl (Stp.res rfl rfl (Res.eql rfl rfl rfl) ?_)
      refine WL.step rfl (Stp.res rfl rfl (Res.move rfl rfl) ?_)
      by_cases hg7 : ((t.data.length : Nat) : Int) = ((0 : Nat) : Int)
      · refine WL.stepG 4 true rfl rfl rfl (bT hg7) (Stp.res rfl rfl (Res.fieldA rfl rfl underlying32 rfl (show SZ Tryz.prog _ 1 from sz3) (by decide)) ?_)
        refine WL.stepG 4 true rfl rfl rfl (bT hg7) (Stp.res rfl rfl (Res.load1 (v := .int .i64 (t.num)) rfl rfl underlying3 rfl (hS.cell (PH.cell_of hbb1_0_2 rfl))) ?_)
        refine WL.stepG 4 true rfl rfl rfl (bT hg7) (Stp.res rfl rfl (Res.eql rfl rfl rfl) ?_)
        refine WL.step rfl (Stp.res rfl rfl (Res.pickT rfl (bT hg7) rfl) ?_)
        refine WL.step rfl (Stp.res rfl rfl (Res.move rfl rfl) ?_)
        by_cases hg8 : (t.num) = ((0 : Nat) : Int)
        · refine WL.stepG 9 true rfl rfl rfl (bT hg8) (Stp.res rfl rfl (Res.fieldA rfl rfl underlying32 rfl (show SZ Tryz.prog _ 1 from sz24) (by decide)) ?_)
          refine WL.stepG 9 true rfl rfl rfl (bT hg8) (Stp.res rfl rfl (Res.load1 (v := .slice (la1) (t.subs.length) (lc1)) rfl rfl underlying24 rfl (hS.cell (PH.cell_of hbb1_0_2 rfl))) ?_)
          refine WL.stepG 9 true rfl rfl rfl (bT hg8) (Stp.res rfl rfl (Res.len rfl rfl rfl rfl underlying24) ?_)
          refine WL.stepG 9 true rfl rfl rfl (bT hg8) (Stp.res rfl rfl (Res.eql rfl rfl rfl) ?_)
          refine WL.step rfl (Stp.res rfl rfl (Res.pickT rfl (bT hg8) rfl) ?_)
          refine WL.step rfl (Stp.res rfl rfl (Res.assign rfl rfl) ?_)
          refine WL.nil (Thn_n ?_)
          refine CW.ret (Blk_r (Thn_r ?_))
          exact fq_tmp rfl rfl ⟨M, (hS.known hG2.1), PH.le.refl _, Fresh.refl _ _, rfl, (congrArg Value.bool (decide_eq_decide.2 ⟨fun h => (shape2 (by omega)).2 ⟨(by first | assumption | omega), (by first | assumption | omega), (by first | assumption | omega)⟩, fun h => by have h9 := (shape2 (by omega)).1 h; omega⟩))⟩
        · refine WL.skipG 9 true rfl rfl rfl (bF hg8) rfl rfl ?_
          refine WL.skipG 9 true rfl rfl rfl (bF hg8) rfl rfl ?_
          refine WL.skipG 9 true rfl rfl rfl (bF hg8) rfl rfl ?_
          refine WL.skipG 9 true rfl rfl rfl (bF hg8) rfl rfl ?_
          refine WL.step rfl (Stp.res rfl rfl (Res.pickF rfl (bF hg8) rfl) ?_)
          refine WL.step rfl (Stp.res rfl rfl (Res.assign rfl rfl) ?_)
          refine WL.nil (Thn_n ?_)
          refine CW.ret (Blk_r (Thn_r ?_))
          exact fq_tmp rfl rfl ⟨M, (hS.known hG2.1), PH.le.refl _, Fresh.refl _ _, rfl, (congrArg Value.bool ((decide_eq_false (fun h => by have h9 := (shape2 (by omega)).1 h; first | omega | exact absurd h9.1 (by assumption) | exact absurd h9.2.1 (by assumption))).symm))⟩
      · refine WL.skipG 4 true rfl rfl rfl (bF hg7) rfl rfl ?_
        refine WL.skipG 4 true rfl rfl rfl (bF hg7) rfl rfl ?_
        refine WL.skipG 4 true rfl rfl rfl (bF hg7) rfl rfl ?_
        refine WL.step rfl (Stp.res rfl rfl (Res.pickF rfl (bF hg7) rfl) ?_)
        refine WL.step rfl (Stp.res rfl rfl (Res.move rfl rfl) ?_)
        refine WL.skipG 9 true rfl rfl rfl rfl rfl rfl ?_
        refine WL.skipG 9 true rfl rfl rfl rfl rfl rfl ?_
        refine WL.skipG 9 true rfl rfl rfl rfl rfl rfl ?_
        refine WL.skipG 9 true rfl rfl rfl rfl rfl rfl ?_
        refine WL.step rfl (Stp.res rfl rfl (Res.pickF rfl rfl rfl) ?_)
        refine WL.step rfl (Stp.res rfl rfl (Res.assign rfl rfl) ?_)
        refine WL.nil (Thn_n ?_)
        refine CW.ret (Blk_r (Thn_r ?_))
        exact fq_tmp rfl rfl ⟨M, (hS.known hG2.1), PH.le.refl _, Fresh.refl _ _, rfl, (congrArg Value.bool ((decide_eq_false (fun h => by have h9 := (shape2 (by omega)).1 h; first | omega | exact absurd h9.1 (by assumption) | exact absurd h9.2.1 (by assumption))).symm))⟩
    · refine CW.seq ?_
      refine CW.region ?_
      refine WL.step rfl (Stp.res rfl rfl (Res.eql rfl rfl rfl) ?_)
      refine WL.step rfl (Stp.res rfl rfl (Res.assign rfl rfl) ?_)
      refine WL.nil (Thn_n ?_)
      refine CW.ite rfl (fun hc9 => ?_) (fun hc9 => ?_)
      · refine CW.seq ?_
        refine CW.region ?_
        refine WL.step rfl (Stp.res rfl rfl (Res.fieldA rfl rfl underlying32 rfl (show SZ Tryz.prog _ 1 from sz30) (by decide)) ?_)
        refine WL.step rfl (Stp.res rfl rfl (Res.load1 (v := .slice (da1) (t.data.length) (dc1)) rfl rfl underlying30 rfl (hS.cell (PH.cell_of hbb1_0_2 rfl))) ?_)
        refine WL.step rfl (Stp.res rfl rfl (Res.len rfl rfl rfl rfl underlying30) ?_)
        refine WL.step rfl (Stp.res rfl rfl (Res.eql rfl rfl rfl) ?_)
        refine WL.step rfl (Stp.res rfl rfl (Res.move rfl rfl) ?_)
        by_cases hg10 : ((t.data.length : Nat) : Int) = ((0 : Nat) : Int)
        · refine WL.stepG 4 true rfl rfl rfl (bT hg10) (Stp.res rfl rfl (Res.fieldA rfl rfl underlying32 rfl (show SZ Tryz.prog _ 1 from sz9) (by decide)) ?_)
          refine WL.stepG 4 true rfl rfl rfl (bT hg10) (Stp.res rfl rfl (Res.load1 (v := Go.E.str (t.name)) rfl rfl underlying9 rfl (hS.cell (PH.cell_of hbb1_0_2 rfl))) ?_)
          refine WL.stepG 4 true rfl rfl rfl (bT hg10) (Stp.res rfl rfl (Res.eqlS (a := t.name) (b := []) rfl rfl rfl) ?_)
          refine WL.step rfl (Stp.res rfl rfl (Res.pickT rfl (bT hg10) rfl) ?_)
          refine WL.step rfl (Stp.res rfl rfl (Res.move rfl rfl) ?_)
          by_cases hg11 : t.name = []
          · refine WL.stepG 9 true rfl rfl rfl (bT hg11) (Stp.res rfl rfl (Res.fieldA rfl rfl underlying32 rfl (show SZ Tryz.prog _ 1 from sz3) (by decide)) ?_)
            refine WL.stepG 9 true rfl rfl rfl (bT hg11) (Stp.res rfl rfl (Res.load1 (v := .int .i64 (t.num)) rfl rfl underlying3 rfl (hS.cell (PH.cell_of hbb1_0_2 rfl))) ?_)
            refine WL.stepG 9 true rfl rfl rfl (bT hg11) (Stp.res rfl rfl (Res.eql rfl rfl rfl) ?_)
            refine WL.step rfl (Stp.res rfl rfl (Res.pickT rfl (bT hg11) rfl) ?_)
            refine WL.step rfl (Stp.res rfl rfl (Res.assign rfl rfl) ?_)
            refine WL.nil (Thn_n ?_)
            refine CW.ret (Blk_r (Thn_r ?_))
            exact fq_tmp rfl rfl ⟨M, (hS.known hG2.1), PH.le.refl _, Fresh.refl _ _, rfl, (congrArg Value.bool (decide_eq_decide.2 ⟨fun h => (shape3 (by omega)).2 ⟨(by first | assumption | omega), (by first | assumption | omega), (by first | assumption | omega)⟩, fun h => by have h9 := (shape3 (by omega)).1 h; omega⟩))⟩
          · refine WL.skipG 9 true rfl rfl rfl (bF hg11) rfl rfl ?_
            refine WL.skipG 9 true rfl rfl rfl (bF hg11) rfl rfl ?_
            refine WL.skipG 9 true rfl rfl rfl (bF hg11) rfl rfl ?_
            refine WL.step rfl (Stp.res rfl rfl (Res.pickF rfl (bF hg11) rfl) ?_)
            refine WL.step rfl (Stp.res rfl rfl (Res.assign rfl rfl) ?_)
            refine WL.nil (Thn_n ?_)
            refine CW.ret (Blk_r (Thn_r ?_))
            exact fq_tmp rfl rfl ⟨M, (hS.known hG2.1), PH.le.refl _, Fresh.refl _ _, rfl, (congrArg Value.bool ((decide_eq_false (fun h => by have h9 := (shape3 (by omega)).1 h; first | omega | exact absurd h9.1 (by assumption) | exact absurd h9.2.1 (by assumption))).symm))⟩
        · refine WL.skipG 4 true rfl rfl rfl (bF hg10) rfl rfl ?_
          refine WL.skipG 4 true rfl rfl rfl (bF hg10) rfl rfl ?_
          refine WL.skipG 4 true rfl rfl rfl (bF hg10) rfl rfl ?_
          refine WL.step rfl (Stp.res rfl rfl (Res.pickF rfl (bF hg10) rfl) ?_)
          refine WL.step rfl (Stp.res rfl rfl (Res.move rfl rfl) ?_)
          refine WL.skipG 9 true rfl rfl rfl rfl rfl rfl ?_
          refine WL.skipG 9 true rfl rfl rfl rfl rfl rfl ?_
          refine WL.skipG 9 true rfl rfl rfl rfl rfl rfl ?_
          refine WL.step rfl (Stp.res rfl rfl (Res.pickF rfl rfl rfl) ?_)
          refine WL.step rfl (Stp.res rfl rfl (Res.assign rfl rfl) ?_)
          refine WL.nil (Thn_n ?_)
          refine CW.ret (Blk_r (Thn_r ?_))
          exact fq_tmp rfl rfl ⟨M, (hS.known hG2.1), PH.le.refl _, Fresh.refl _ _, rfl, (congrArg Value.bool ((decide_eq_false (fun h => by have h9 := (shape3 (by omega)).1 h; first | omega | exact absurd h9.1 (by assumption) | exact absurd h9.2.1 (by assumption))).symm))⟩
      · refine CW.seq ?_
        refine CW.region ?_
        refine WL.step rfl (Stp.res rfl rfl (Res.eql rfl rfl rfl) ?_)
        refine WL.step rfl (Stp.res rfl rfl (Res.assign rfl rfl) ?_)
        refine WL.nil (Thn_n ?_)
        refine CW.ite rfl (fun hc12 => ?_) (fun hc12 => ?_)
        · refine CW.seq ?_
          refine CW.region ?_
          refine WL.step rfl (Stp.res rfl rfl (Res.fieldA rfl rfl underlying32 rfl (show SZ Tryz.prog _ 1 from sz9) (by decide)) ?_)
          refine WL.step rfl (Stp.res rfl rfl (Res.load1 (v := Go.E.str (t.name)) rfl rfl underlying9 rfl (hS.cell (PH.cell_of hbb1_0_2 rfl))) ?_)
          refine WL.step rfl (Stp.res rfl rfl (Res.eqlS (a := t.name) (b := []) rfl rfl rfl) ?_)
          refine WL.step rfl (Stp.res rfl rfl (Res.move rfl rfl) ?_)
          by_cases hg13 : t.name = []
          · refine WL.stepG 3 true rfl rfl rfl (bT hg13) (Stp.res rfl rfl (Res.fieldA rfl rfl underlying32 rfl (show SZ Tryz.prog _ 1 from sz24) (by decide)) ?_)
            refine WL.stepG 3 true rfl rfl rfl (bT hg13) (Stp.res rfl rfl (Res.load1 (v := .slice (la1) (t.subs.length) (lc1)) rfl rfl underlying24 rfl (hS.cell (PH.cell_of hbb1_0_2 rfl))) ?_)
            refine WL.stepG 3 true rfl rfl rfl (bT hg13) (Stp.res rfl rfl (Res.len rfl rfl rfl rfl underlying24) ?_)
            refine WL.stepG 3 true rfl rfl rfl (bT hg13) (Stp.res rfl rfl (Res.eql rfl rfl rfl) ?_)
            refine WL.step rfl (Stp.res rfl rfl (Res.pickT rfl (bT hg13) rfl) ?_)
            refine WL.step rfl (Stp.res rfl rfl (Res.assign rfl rfl) ?_)
            refine WL.nil (Thn_n ?_)
            refine CW.ret (Blk_r (Thn_r ?_))
            exact fq_tmp rfl rfl ⟨M, (hS.known hG2.1), PH.le.refl _, Fresh.refl _ _, rfl, (congrArg Value.bool (decide_eq_decide.2 ⟨fun h => (shape4 (by omega)).2 ⟨(by first | assumption | omega), (by first | assumption | omega)⟩, fun h => by have h9 := (shape4 (by omega)).1 h; omega⟩))⟩
          · refine WL.skipG 3 true rfl rfl rfl (bF hg13) rfl rfl ?_
            refine WL.skipG 3 true rfl rfl rfl (bF hg13) rfl rfl ?_
            refine WL.skipG 3 true rfl rfl rfl (bF hg13) rfl rfl ?_
            refine WL.skipG 3 true rfl rfl rfl (bF hg13) rfl rfl ?_
            refine WL.step rfl (Stp.res rfl rfl (Res.pickF rfl (bF hg13) rfl) ?_)
            refine WL.step rfl (Stp.res rfl rfl (Res.assign rfl rfl) ?_)
            refine WL.nil (Thn_n ?_)
            refine CW.ret (Blk_r (Thn_r ?_))
            exact fq_tmp rfl rfl ⟨M, (hS.known hG2.1), PH.le.refl _, Fresh.refl _ _, rfl, (congrArg Value.bool ((decide_eq_false (fun h => by have h9 := (shape4 (by omega)).1 h; first | omega | exact absurd h9.1 (by assumption) | exact absurd h9.2.1 (by assumption))).symm))⟩
        · refine CW.seq ?_
          refine CW.region ?_
          refine WL.step rfl (Stp.res rfl rfl (Res.eql rfl rfl rfl) ?_)
          refine WL.step rfl (Stp.res rfl rfl (Res.assign rfl rfl) ?_)
          refine WL.nil (Thn_n ?_)
          refine CW.ite rfl (fun hc14 => ?_) (fun hc14 => ?_)
          · refine CW.seq ?_
            refine CW.region ?_
            refine WL.step rfl (Stp.res rfl rfl (Res.fieldA rfl rfl underlying32 rfl (show SZ Tryz.prog _ 1 from sz30) (by decide)) ?_)
            refine WL.step rfl (Stp.res rfl rfl (Res.load1 (v := .slice (da1) (t.data.length) (dc1)) rfl rfl underlying30 rfl (hS.cell (PH.cell_of hbb1_0_2 rfl))) ?_)
            refine WL.step rfl (Stp.res rfl rfl (Res.len rfl rfl rfl rfl underlying30) ?_)
            refine WL.step rfl (Stp.res rfl rfl (Res.eql rfl rfl rfl) ?_)
            refine WL.step rfl (Stp.res rfl rfl (Res.move rfl rfl) ?_)
            by_cases hg15 : ((t.data.length : Nat) : Int) = ((0 : Nat) : Int)
            · refine WL.stepG 4 true rfl rfl rfl (bT hg15) (Stp.res rfl rfl (Res.fieldA rfl rfl underlying32 rfl (show SZ Tryz.prog _ 1 from sz9) (by decide)) ?_)
              refine WL.stepG 4 true rfl rfl rfl (bT hg15) (Stp.res rfl rfl (Res.load1 (v := Go.E.str (t.name)) rfl rfl underlying9 rfl (hS.cell (PH.cell_of hbb1_0_2 rfl))) ?_)
              refine WL.stepG 4 true rfl rfl rfl (bT hg15) (Stp.res rfl rfl (Res.eqlS (a := t.name) (b := []) rfl rfl rfl) ?_)
              refine WL.step rfl (Stp.res rfl rfl (Res.pickT rfl (bT hg15) rfl) ?_)
              refine WL.step rfl (Stp.res rfl rfl (Res.move rfl rfl) ?_)
              by_cases hg16 : t.name = []
              · refine WL.stepG 9 true rfl rfl rfl (bT hg16) (Stp.res rfl rfl (Res.fieldA rfl rfl underlying32 rfl (show SZ Tryz.prog _ 1 from sz3) (by decide)) ?_)
                refine WL.stepG 9 true rfl rfl rfl (bT hg16) (Stp.res rfl rfl (Res.load1 (v := .int .i64 (t.num)) rfl rfl underlying3 rfl (hS.cell (PH.cell_of hbb1_0_2 rfl))) ?_)
                refine WL.stepG 9 true rfl rfl rfl (bT hg16) (Stp.res rfl rfl (Res.eql rfl rfl rfl) ?_)
                refine WL.step rfl (Stp.res rfl rfl (Res.pickT rfl (bT hg16) rfl) ?_)
                refine WL.step rfl (Stp.res rfl rfl (Res.move rfl rfl) ?_)
                by_cases hg17 : (t.num) = ((0 : Nat) : Int)
                · refine WL.stepG 14 true rfl rfl rfl (bT hg17) (Stp.res rfl rfl (Res.fieldA rfl rfl underlying32 rfl (show SZ Tryz.prog _ 1 from sz24) (by decide)) ?_)
                  refine WL.stepG 14 true rfl rfl rfl (bT hg17) (Stp.res rfl rfl (Res.load1 (v := .slice (la1) (t.subs.length) (lc1)) rfl rfl underlying24 rfl (hS.cell (PH.cell_of hbb1_0_2 rfl))) ?_)
                  refine WL.stepG 14 true rfl rfl rfl (bT hg17) (Stp.res rfl rfl (Res.len rfl rfl rfl rfl underlying24) ?_)
                  refine WL.stepG 14 true rfl rfl rfl (bT hg17) (Stp.res rfl rfl (Res.eql rfl rfl rfl) ?_)
                  refine WL.step rfl (Stp.res rfl rfl (Res.pickT rfl (bT hg17) rfl) ?_)
                  refine WL.step rfl (Stp.res rfl rfl (Res.assign rfl rfl) ?_)
                  refine WL.nil (Thn_n ?_)
                  refine CW.ret (Blk_r (Thn_r ?_))
                  exact fq_tmp rfl rfl ⟨M, (hS.known hG2.1), PH.le.refl _, Fresh.refl _ _, rfl, (congrArg Value.bool (decide_eq_decide.2 ⟨fun h => (shape5 (by omega)).2 ⟨(by first | assumption | omega), (by first | assumption | omega), (by first | assumption | omega), (by first | assumption | omega)⟩, fun h => by have h9 := (shape5 (by omega)).1 h; omega⟩))⟩
                · refine WL.skipG 14 true rfl rfl rfl (bF hg17) rfl rfl ?_
                  refine WL.skipG 14 true rfl rfl rfl (bF hg17) rfl rfl ?_
                  refine WL.skipG 14 true rfl rfl rfl (bF hg17) rfl rfl ?_
                  refine WL.skipG 14 true rfl rfl rfl (bF hg17) rfl rfl ?_
                  refine WL.step rfl (Stp.res rfl rfl (Res.pickF rfl (bF hg17) rfl) ?_)
                  refine WL.step rfl (Stp.res rfl rfl (Res.assign rfl rfl) ?_)
                  refine WL.nil (Thn_n ?_)
                  refine CW.ret (Blk_r (Thn_r ?_))
                  exact fq_tmp rfl rfl ⟨M, (hS.known hG2.1), PH.le.refl _, Fresh.refl _ _, rfl, (congrArg Value.bool ((decide_eq_false (fun h => by have h9 := (shape5 (by omega)).1 h; first | omega | exact absurd h9.1 (by assumption) | exact absurd h9.2.1 (by assumption))).symm))⟩
              · refine WL.skipG 9 true rfl rfl rfl (bF hg16) rfl rfl ?_
                refine WL.skipG 9 true rfl rfl rfl (bF hg16) rfl rfl ?_
                refine WL.skipG 9 true rfl rfl rfl (bF hg16) rfl rfl ?_
                refine WL.step rfl (Stp.res rfl rfl (Res.pickF rfl (bF hg16) rfl) ?_)
                refine WL.step rfl (Stp.res rfl rfl (Res.move rfl rfl) ?_)
                refine WL.skipG 14 true rfl rfl rfl rfl rfl rfl ?_
                refine WL.skipG 14 true rfl rfl rfl rfl rfl rfl ?_
                refine WL.skipG 14 true rfl rfl rfl rfl rfl rfl ?_
                refine WL.skipG 14 true rfl rfl rfl rfl rfl rfl ?_
                refine WL.step rfl (Stp.res rfl rfl (Res.pickF rfl rfl rfl) ?_)
                refine WL.step rfl (Stp.res rfl rfl (Res.assign rfl rfl) ?_)
                refine WL.nil (Thn_n ?_)
                refine CW.ret (Blk_r (Thn_r ?_))
                exact fq_tmp rfl rfl ⟨M, (hS.known hG2.1), PH.le.refl _, Fresh.refl _ _, rfl, (congrArg Value.bool ((decide_eq_false (fun h => by have h9 := (shape5 (by omega)).1 h; first | omega | exact absurd h9.1 (by assumption) | exact absurd h9.2.1 (by assumption))).symm))⟩
            · refine WL.skipG 4 true rfl rfl rfl (bF hg15) rfl rfl ?_
              refine WL.skipG 4 true rfl rfl rfl (bF hg15) rfl rfl ?_
              refine WL.skipG 4 true rfl rfl rfl (bF hg15) rfl rfl ?_
              refine WL.step rfl (Stp.res rfl rfl (Res.pickF rfl (bF hg15) rfl) ?_)
              refine WL.step rfl (Stp.res rfl rfl (Res.move rfl rfl) ?_)
              refine WL.skipG 9 true rfl rfl rfl rfl rfl rfl ?_
              refine WL.skipG 9 true rfl rfl rfl rfl rfl rfl ?_
              refine WL.skipG 9 true rfl rfl rfl rfl rfl rfl ?_
              refine WL.step rfl (Stp.res rfl rfl (Res.pickF rfl rfl rfl) ?_)
              refine WL.step rfl (Stp.res rfl rfl (Res.move rfl rfl) ?_)
              refine WL.skipG 14 true rfl rfl rfl rfl rfl rfl ?_
              refine WL.skipG 14 true rfl rfl rfl rfl rfl rfl ?_
              refine WL.skipG 14 true rfl rfl rfl rfl rfl rfl ?_
              refine WL.skipG 14 true rfl rfl rfl rfl rfl rfl ?_
              refine WL.step rfl (Stp.res rfl rfl (Res.pickF rfl rfl rfl) ?_)
              refine WL.step rfl (Stp.res rfl rfl (Res.assign rfl rfl) ?_)
              refine WL.nil (Thn_n ?_)
              refine CW.ret (Blk_r (Thn_r ?_))
              exact fq_tmp rfl rfl ⟨M, (hS.known hG2.1), PH.le.refl _, Fresh.refl _ _, rfl, (congrArg Value.bool ((decide_eq_false (fun h => by have h9 := (shape5 (by omega)).1 h; first | omega | exact absurd h9.1 (by assumption) | exact absurd h9.2.1 (by assumption))).symm))⟩
          · refine CW.seq ?_
            refine CW.region ?_
            refine WL.step rfl (Stp.res rfl rfl (Res.eql rfl rfl rfl) ?_)
            refine WL.step rfl (Stp.res rfl rfl (Res.assign rfl rfl) ?_)
            refine WL.nil (Thn_n ?_)
            refine CW.ite rfl (fun hc18 => ?_) (fun hc18 => ?_)
            · refine CW.seq ?_
              refine CW.region ?_
              refine WL.step rfl (Stp.res rfl rfl (Res.fieldA rfl rfl underlying32 rfl (show SZ Tryz.prog _ 1 from sz30) (by decide)) ?_)
              refine WL.step rfl (Stp.res rfl rfl (Res.load1 (v := .slice (da1) (t.data.length) (dc1)) rfl rfl underlying30 rfl (hS.cell (PH.cell_of hbb1_0_2 rfl))) ?_)
              refine WL.step rfl (Stp.res rfl rfl (Res.len rfl rfl rfl rfl underlying30) ?_)
              refine WL.step rfl (Stp.res rfl rfl (Res.eql rfl rfl rfl) ?_)
              refine WL.step rfl (Stp.res rfl rfl (Res.move rfl rfl) ?_)
              by_cases hg19 : ((t.data.length : Nat) : Int) = ((0 : Nat) : Int)
              · refine WL.stepG 4 true rfl rfl rfl (bT hg19) (Stp.res rfl rfl (Res.fieldA rfl rfl underlying32 rfl (show SZ Tryz.prog _ 1 from sz3) (by decide)) ?_)
                refine WL.stepG 4 true rfl rfl rfl (bT hg19) (Stp.res rfl rfl (Res.load1 (v := .int .i64 (t.num)) rfl rfl underlying3 rfl (hS.cell (PH.cell_of hbb1_0_2 rfl))) ?_)
                refine WL.stepG 4 true rfl rfl rfl (bT hg19) (Stp.res rfl rfl (Res.eql rfl rfl rfl) ?_)
                refine WL.step rfl (Stp.res rfl rfl (Res.pickT rfl (bT hg19) rfl) ?_)
                refine WL.step rfl (Stp.res rfl rfl (Res.move rfl rfl) ?_)
                by_cases hg20 : (t.num) = ((0 : Nat) : Int)
                · refine WL.stepG 9 true rfl rfl rfl (bT hg20) (Stp.res rfl rfl (Res.fieldA rfl rfl underlying32 rfl (show SZ Tryz.prog _ 1 from sz24) (by decide)) ?_)
                  refine WL.stepG 9 true rfl rfl rfl (bT hg20) (Stp.res rfl rfl (Res.load1 (v := .slice (la1) (t.subs.length) (lc1)) rfl rfl underlying24 rfl (hS.cell (PH.cell_of hbb1_0_2 rfl))) ?_)
                  refine WL.stepG 9 true rfl rfl rfl (bT hg20) (Stp.res rfl rfl (Res.len rfl rfl rfl rfl underlying24) ?_)
                  refine WL.stepG 9 true rfl rfl rfl (bT hg20) (Stp.res rfl rfl (Res.eql rfl rfl rfl) ?_)
                  refine WL.step rfl (Stp.res rfl rfl (Res.pickT rfl (bT hg20) rfl) ?_)
                  refine WL.step rfl (Stp.res rfl rfl (Res.assign rfl rfl) ?_)
                  refine WL.nil (Thn_n ?_)
                  refine CW.ret (Blk_r (Thn_r ?_))
                  exact fq_tmp rfl rfl ⟨M, (hS.known hG2.1), PH.le.refl _, Fresh.refl _ _, rfl, (congrArg Value.bool (decide_eq_decide.2 ⟨fun h => (shape6 (by omega)).2 ⟨(by first | assumption | omega), (by first | assumption | omega), (by first | assumption | omega)⟩, fun h => by have h9 := (shape6 (by omega)).1 h; omega⟩))⟩
                · refine WL.skipG 9 true rfl rfl rfl (bF hg20) rfl rfl ?_
                  refine WL.skipG 9 true rfl rfl rfl (bF hg20) rfl rfl ?_
                  refine WL.skipG 9 true rfl rfl rfl (bF hg20) rfl rfl ?_
                  refine WL.skipG 9 true rfl rfl rfl (bF hg20) rfl rfl ?_
                  refine WL.step rfl (Stp.res rfl rfl (Res.pickF rfl (bF hg20) rfl) ?_)
                  refine WL.step rfl (Stp.res rfl rfl (Res.assign rfl rfl) ?_)
                  refine WL.nil (Thn_n ?_)
                  refine CW.ret (Blk_r (Thn_r ?_))
                  exact fq_tmp rfl rfl ⟨M, (hS.known hG2.1), PH.le.refl _, Fresh.refl _ _, rfl, (congrArg Value.bool ((decide_eq_false (fun h => by have h9 := (shape6 (by omega)).1 h; first | omega | exact absurd h9.1 (by assumption) | exact absurd h9.2.1 (by assumption))).symm))⟩
              · refine WL.skipG 4 true rfl rfl rfl (bF hg19) rfl rfl ?_
                refine WL.skipG 4 true rfl rfl rfl (bF hg19) rfl rfl ?_
                refine WL.skipG 4 true rfl rfl rfl (bF hg19) rfl rfl ?_
                refine WL.step rfl (Stp.res rfl rfl (Res.pickF rfl (bF hg19) rfl) ?_)
                refine WL.step rfl (Stp.res rfl rfl (Res.move rfl rfl) ?_)
                refine WL.skipG 9 true rfl rfl rfl rfl rfl rfl ?_
                refine WL.skipG 9 true rfl rfl rfl rfl rfl rfl ?_
                refine WL.skipG 9 true rfl rfl rfl rfl rfl rfl ?_
                refine WL.skipG 9 true rfl rfl rfl rfl rfl rfl ?_
                refine WL.step rfl (Stp.res rfl rfl (Res.pickF rfl rfl rfl) ?_)
                refine WL.step rfl (Stp.res rfl rfl (Res.assign rfl rfl) ?_)
                refine WL.nil (Thn_n ?_)
                refine CW.ret (Blk_r (Thn_r ?_))
                exact fq_tmp rfl rfl ⟨M, (hS.known hG2.1), PH.le.refl _, Fresh.refl _ _, rfl, (congrArg Value.bool ((decide_eq_false (fun h => by have h9 := (shape6 (by omega)).1 h; first | omega | exact absurd h9.1 (by assumption) | exact absurd h9.2.1 (by assumption))).symm))⟩
            · refine CW.skip (Blk_n (Thn_n ?_))
              refine CW.seq ?_
              refine CW.region ?_
              refine WL.step rfl (Stp.res rfl rfl (Res.assign rfl rfl) ?_)
              refine WL.nil (Thn_n ?_)
              refine CW.ret ?_
              exact fq_tmp rfl rfl ⟨M, (hS.known hG2.1), PH.le.refl _, Fresh.refl _ _, rfl, (congrArg Value.bool (decide_eq_false (shape0 (by omega) (by omega) (by omega) (by omega) (by omega) (by omega))).symm)⟩
theorem wrong_ok (t : T) (da1 : Option Addr) (dc1 : Nat) (la1 : Option Addr) (lc1 : Nat) (w0 : World) (M : PH) (hM : On M w0) (hd1 : Bs M (.slice da1 t.data.length dc1) t.data) (hs1 : Ts M (.slice la1 t.subs.length lc1) t.subs) : Ok Tryz.prog 92 #[.agg (TV t da1 dc1 la1 lc1)] w0 M (fun M' r => BadE M' r 290) := by
  have hS := hM.st
  refine enterB (l := [.agg (TV (t) da1 dc1 la1 lc1)]) 8 func92 rfl ntmps92 rfl ?_
  refine CW.seq ?_
  refine CW.region ?_
  refine WL.step rfl (Stp.boxA (cs := TV (t) da1 dc1 la1 lc1) rfl rfl rfl rfl hS ?_)
  intro b1_0 w hbb1_0 hS hkp hnw
  obtain ⟨M2, hG2, hbb1_0_2, hS⟩ : ∃ Mx, Grow w0.heap.size M Mx ∧ Kb Mx b1_0 (.cells (TV (t) da1 dc1 la1 lc1) 35 (0, 0)) ∧ St w0 w Mx ([]) := by
    have hF := hS.freezeG (i := 0) rfl hbb1_0
    exact ⟨_, hF.2, PH.add_self _ _ _, hF.1⟩
  refine WL.step rfl (Stp.res rfl rfl (Res.assign rfl rfl) ?_)
  refine WL.nil (Thn_n ?_)
  refine CW.seq ?_
  refine CW.region ?_
  refine WL.step rfl (Stp.res rfl rfl (Res.fieldA rfl rfl underlying35 rfl (show SZ Tryz.prog _ 1 from sz3) (by decide)) ?_)
  refine WL.step rfl (Stp.res rfl rfl (Res.load1 (v := .int .i64 (t.kind)) rfl rfl underlying3 rfl (hS.cell (PH.cell_of hbb1_0_2 rfl))) ?_)
  refine WL.step rfl (Stp.res rfl rfl (Res.build (vals := [(0, .int .i64 (t.kind)), (1, .int .i64 ((290 : Nat) : Int))]) (cs := #[.int .i64 (t.kind), .int .i64 ((290 : Nat) : Int)]) rfl rfl (fun _ => by kernel_rfl)) ?_)
  refine WL.step rfl (Stp.boxA (cs := #[.int .i64 (t.kind), .int .i64 ((290 : Nat) : Int)]) rfl rfl rfl rfl hS ?_)
  intro b6_2 w hbb6_2 hS hkp hnw
  obtain ⟨M4, hG4, hbb6_2_4, hS⟩ : ∃ Mx, Grow w0.heap.size M2 Mx ∧ Kb Mx b6_2 (.cells (#[.int .i64 (t.kind), .int .i64 ((290 : Nat) : Int)]) 130 (0, 0)) ∧ St w0 w Mx ([]) := by
    have hF := hS.freezeG (i := 0) rfl hbb6_2
    exact ⟨_, hF.2, PH.add_self _ _ _, hF.1⟩
  refine WL.step rfl (Stp.res rfl rfl (Res.mkIface rfl rfl underlying128 rfl) ?_)
  refine WL.step rfl (Stp.res rfl rfl (Res.assign rfl rfl) ?_)
  refine WL.nil (Thn_n ?_)
  refine CW.ret ?_
  exact fq_tmp rfl rfl ⟨_, hS, (hG2.trans hG4).1, (hG2.trans hG4).2, ⟨_, _, rfl, hbb6_2_4⟩⟩
theorem as_nil (t : Value) (w : World) :
    Calls Tryz.prog 93 #[.nilIface, t] w fun e w' => e = .returned (.bool false) ∧ w' = w := by
  go_enter func93, ntmps93
  go_wp2
  go_ret
  exact ⟨rfl, rfl⟩
theorem asB_valueOf27 (t : Addr) (w : World) : (ReflectliteValue.unpack (.iface 133 (.pointer (some t)))).run Tryz.prog w
    = .ok (.agg #[.pointer (some ⟨5, 133, none⟩), .pointer (some ⟨w.heap.size, 0, none⟩), .int .u64 150]) (w.alloc (.cells #[.pointer (some t)] 133)) := by kernel_rfl
theorem asB_type27 (a : Addr) (w : World) : (ReflectliteValue.methodAny (ReflectliteValue.valueError "reflectlite.Value.Type" 0) (fun t _ _ _ => ReflectliteType.toType t) #[.agg #[.pointer (some ⟨5, 133, none⟩), .pointer (some a), .int .u64 150]]).run Tryz.prog w
    = .ok (.iface 211 (.agg #[.pointer (some ⟨5, 133, none⟩)])) w := by kernel_rfl
theorem asB_methodKind (h : Value) (w : World) : (Go.method 387 211 (.agg #[h]) "Kind").run Tryz.prog w = .ok (207, h) w := by kernel_rfl
theorem asB_kind27 (w : World) : ((ReflectliteType.abiMethod fun t => (fun a : Nat => Value.int IntKind.u8 (a : Int)) <$> Rtype.kind t) #[.pointer (some ⟨5, 133, none⟩)]).run Tryz.prog w = .ok (.int .u8 22) w := by kernel_rfl
theorem asB_kind25 (w : World) : ((ReflectliteType.abiMethod fun t => (fun a : Nat => Value.int IntKind.u8 (a : Int)) <$> Rtype.kind t) #[.pointer (some ⟨5, 128, none⟩)]).run Tryz.prog w = .ok (.int .u8 22) w := by kernel_rfl
theorem rlm (z : Sem Value) (f : TypeId → Addr → Nat → Nat → Sem Value) (v : Value) :
    ReflectliteValue.method z f #[v] = (do match ← ReflectliteValue.parts v with | none => z | some (t, a, fl) => f t a fl (fl % 32)) := rfl
theorem asB_parts27 (a : Addr) (w : World) : (ReflectliteValue.parts (.agg #[.pointer (some ⟨5, 133, none⟩), .pointer (some a), .int .u64 150])).run Tryz.prog w = .ok (some (133, a, 150)) w := by kernel_rfl
theorem asB_isNil27 (a p : Addr) (W : World) (ha : W.cell? a = some (.pointer (some p))) :
    (ReflectliteValue.method (ReflectliteValue.valueError "reflectlite.Value.IsNil" 0) ReflectliteValue.isNil #[.agg #[.pointer (some ⟨5, 133, none⟩), .pointer (some a), .int .u64 150]]).run Tryz.prog W = .ok (.bool false) W := by
  rw [rlm]
  simp only [Sem.run_bind, asB_parts27, Result.andThen]
  simp [ReflectliteValue.isNil, loadVar, isAgg, underlying, underlying133, ha, Result.andThen]
theorem asB_methodElem (h : Value) (w : World) : (Go.method 387 211 (.agg #[h]) "Elem").run Tryz.prog w = .ok (224, .agg #[h]) w := by kernel_rfl
theorem asB_methodImplements (h : Value) (w : World) : (Go.method 387 211 (.agg #[h]) "Implements").run Tryz.prog w = .ok (225, .agg #[h]) w := by kernel_rfl
theorem asB_methodAssignableTo (h : Value) (w : World) : (Go.method 387 211 (.agg #[h]) "AssignableTo").run Tryz.prog w = .ok (222, .agg #[h]) w := by kernel_rfl
theorem asB_elem27 (w : World) : (ReflectliteType.method ReflectliteType.elem #[.agg #[.pointer (some ⟨5, 133, none⟩)]]).run Tryz.prog w = .ok (.iface 211 (.agg #[.pointer (some ⟨5, 128, none⟩)])) w := by kernel_rfl
theorem asB_implements25 (w : World) : (ReflectliteType.relation "Implements" ReflectliteType.implements_ #[.agg #[.pointer (some ⟨5, 128, none⟩)], .iface 211 (.agg #[.pointer (some ⟨5, 86, none⟩)])]).run Tryz.prog w = .ok (.bool true) w := by kernel_rfl
theorem asB_typeOf25 (v : Value) (w : World) : (ReflectliteType.typeOf #[.iface 128 v]).run Tryz.prog w = .ok (.iface 211 (.agg #[.pointer (some ⟨5, 128, none⟩)])) w := by kernel_rfl
theorem asB_assignable25 (w : World) : (ReflectliteType.relation "AssignableTo" ReflectliteType.assignableTo #[.agg #[.pointer (some ⟨5, 128, none⟩)], .iface 211 (.agg #[.pointer (some ⟨5, 128, none⟩)])]).run Tryz.prog w = .ok (.bool true) w := by kernel_rfl
theorem asB_valueOf25 (e : Addr) (w : World) : (ReflectliteValue.unpack (.iface 128 (.pointer (some e)))).run Tryz.prog w
    = .ok (.agg #[.pointer (some ⟨5, 128, none⟩), .pointer (some ⟨w.heap.size, 0, none⟩), .int .u64 150]) (w.alloc (.cells #[.pointer (some e)] 128)) := by kernel_rfl
theorem asB_elemOf27 (w : World) : (Rtype.elem? 133).run Tryz.prog w = .ok (some 128) w := by kernel_rfl
theorem asB_mk25 (p : Addr) (w : World) : (ReflectliteValue.mk 128 p ReflectliteValue.flagAddr).run Tryz.prog w = .ok (.agg #[.pointer (some ⟨5, 128, none⟩), .pointer (some p), .int .u64 406]) w := by kernel_rfl
theorem asB_elemV27 (a p : Addr) (W : World) (ha : W.cell? a = some (.pointer (some p))) :
    (ReflectliteValue.method (ReflectliteValue.valueError "reflectlite.Value.Elem" 0) ReflectliteValue.elem #[.agg #[.pointer (some ⟨5, 133, none⟩), .pointer (some a), .int .u64 150]]).run Tryz.prog W
      = .ok (.agg #[.pointer (some ⟨5, 128, none⟩), .pointer (some p), .int .u64 406]) W := by
  rw [rlm]
  simp only [Sem.run_bind, asB_parts27, Result.andThen]
  simp [ReflectliteValue.elem, loadVar, isAgg, underlying, underlying133, ha, Result.andThen, asB_elemOf27, asB_mk25]
theorem rls (v x : Value) : ReflectliteValue.set #[v, x] = (do
    let (some (dst, a, fl), some (src, b, _)) := (← ReflectliteValue.parts v, ← ReflectliteValue.parts x)
      | unsupported (.noEntry "extern/(internal/reflectlite.Value).Set.zeroValue")
    if fl / ReflectliteValue.flagAddr % 2 == 0 then unsupported (.noEntry "extern/(internal/reflectlite.Value).Set.unaddressable")
    let val ← loadVar src b
    if ← Rtype.directlyAssignable dst src then storeVar dst a val
    else if ← Rtype.implements dst src then
      if (← Rtype.kind src) == 20 then
        match val with
        | .nilIface => unsupported (.noEntry "extern/reflectlite: a nil value of one interface type handed on as a value of another")
        | _ => storeVar dst a val
      else storeVar dst a (.iface src val)
    else panicString ("reflectlite.Set: value of type " ++ (← Rtype.spelt src) ++ " is not assignable to type " ++ (← Rtype.spelt dst))
    pure (.tuple #[])) := rfl
theorem asB_parts25a (a : Addr) (w : World) : (ReflectliteValue.parts (.agg #[.pointer (some ⟨5, 128, none⟩), .pointer (some a), .int .u64 406])).run Tryz.prog w = .ok (some (128, a, 406)) w := by kernel_rfl
theorem asB_parts25 (a : Addr) (w : World) : (ReflectliteValue.parts (.agg #[.pointer (some ⟨5, 128, none⟩), .pointer (some a), .int .u64 150])).run Tryz.prog w = .ok (some (128, a, 150)) w := by kernel_rfl
theorem asB_direct25 (w : World) : (Rtype.directlyAssignable 128 128).run Tryz.prog w = .ok true w := by kernel_rfl
theorem asB_set25 (ta b e : Addr) (old : Value) (W : World) (hb : W.cell? b = some (.pointer (some e))) (ht : W.cell? ta = some old) (hf : W.frozen? ta = false) :
    (ReflectliteValue.set #[.agg #[.pointer (some ⟨5, 128, none⟩), .pointer (some ta), .int .u64 406], .agg #[.pointer (some ⟨5, 128, none⟩), .pointer (some b), .int .u64 150]]).run Tryz.prog W
      = .ok (.tuple #[]) (W.setCell ta (.pointer (some e))) := by
  rw [rls]
  simp only [Sem.run_bind, asB_parts25a, asB_parts25, Result.andThen]
  simp [ReflectliteValue.flagAddr, loadVar, isAgg, underlying, underlying128, hb, Result.andThen, asB_direct25, storeVar, Value.cells, storeCells, Addr.add]
  rw [run_store Tryz.prog W ta _ _ (by rfl)]
  simp [ht, hf]
set_option maxHeartbeats 4000000 in
theorem asB_hit (e t : Addr) (old : Value) (w : World) (hg : w.cell? ⟨0, 0, none⟩ = some (.iface 211 (.agg #[.pointer (some ⟨5, 86, none⟩)]))) (ht0 : w.cell? t = some old) (hf0 : w.frozen? t = false) :
    Calls Tryz.prog 93 #[.iface 128 (.pointer (some e)), .iface 133 (.pointer (some t))] w fun ev w' => ev = .returned (.bool true) ∧ w' = ((((w.alloc (.cells #[.pointer (some t)] 133)).alloc (.cells #[.pointer (some ⟨5, 133, none⟩), .pointer (some ⟨w.heap.size, 0, none⟩), .int .u64 150] 169)).alloc (.cells #[.pointer (some ⟨5, 133, none⟩), .pointer (some ⟨w.heap.size, 0, none⟩), .int .u64 150] 169)).alloc (.cells #[.pointer (some e)] 128)).setCell t (.pointer (some e)) := by
  have h6 := @run_callFunc_extern Tryz.prog 131 _ (fun args => ReflectliteValue.unpack (args.getD 0 (.tuple #[]))) func131 (by kernel_rfl) (by kernel_rfl) (by kernel_rfl) (by kernel_rfl)
  have h7 := @run_callFunc_extern Tryz.prog 132 _ (ReflectliteValue.methodAny (ReflectliteValue.valueError "reflectlite.Value.Type" 0) (fun t _ _ _ => ReflectliteType.toType t)) func132 (by kernel_rfl) (by kernel_rfl) (by kernel_rfl) (by kernel_rfl)
  have h8 := @run_callFunc_extern Tryz.prog 133 _ (ReflectliteValue.method (ReflectliteValue.valueError "reflectlite.Value.IsNil" 0) ReflectliteValue.isNil) func133 (by kernel_rfl) (by kernel_rfl) (by kernel_rfl) (by kernel_rfl)
  have h27 := @run_callFunc_extern Tryz.prog 207 _ (ReflectliteType.abiMethod fun t => do pure (.int .u8 (← Rtype.kind t))) func207 (by kernel_rfl) (by kernel_rfl) (by kernel_rfl) (by kernel_rfl)
  have h37 := @run_callFunc_extern Tryz.prog 224 _ (ReflectliteType.method ReflectliteType.elem) func224 (by kernel_rfl) (by kernel_rfl) (by kernel_rfl) (by kernel_rfl)
  have h38 := @run_callFunc_extern Tryz.prog 225 _ (ReflectliteType.relation "Implements" ReflectliteType.implements_) func225 (by kernel_rfl) (by kernel_rfl) (by kernel_rfl) (by kernel_rfl)
  have h10 := @run_callFunc_extern Tryz.prog 146 _ ReflectliteType.typeOf func146 (by kernel_rfl) (by kernel_rfl) (by kernel_rfl) (by kernel_rfl)
  have h35 := @run_callFunc_extern Tryz.prog 222 _ (ReflectliteType.relation "AssignableTo" ReflectliteType.assignableTo) func222 (by kernel_rfl) (by kernel_rfl) (by kernel_rfl) (by kernel_rfl)
  have h11 := @run_callFunc_extern Tryz.prog 159 _ (ReflectliteValue.method (ReflectliteValue.valueError "reflectlite.Value.Elem" 0) ReflectliteValue.elem) func159 (by kernel_rfl) (by kernel_rfl) (by kernel_rfl) (by kernel_rfl)
  have h12 := @run_callFunc_extern Tryz.prog 160 _ ReflectliteValue.set func160 (by kernel_rfl) (by kernel_rfl) (by kernel_rfl) (by kernel_rfl)
  have tO := asB_typeOf25
  have mA := asB_methodAssignableTo
  have a25 := asB_assignable25
  have v25 := asB_valueOf25
  have f6 := asB_valueOf27
  have f7 := asB_type27
  have mK := asB_methodKind
  have mE := asB_methodElem
  have mI := asB_methodImplements
  have k27 := asB_kind27
  have k25 := asB_kind25
  have e27 := asB_elem27
  have i25 := asB_implements25
  have n8 := asB_isNil27 ⟨w.heap.size, 0, none⟩ t ((w.alloc (.cells #[.pointer (some t)] 133)).alloc (.cells #[.pointer (some ⟨5, 133, none⟩), .pointer (some ⟨w.heap.size, 0, none⟩), .int .u64 150] 169)) (by simp)
  have hlt : 0 < w.heap.size := by
    rcases Nat.eq_zero_or_pos w.heap.size with h0 | h
    · simp [World.cell?, h0] at hg
    · exact h
  have hg2 : ((w.alloc (.cells #[.pointer (some t)] 133)).alloc (.cells #[.pointer (some ⟨5, 133, none⟩), .pointer (some ⟨w.heap.size, 0, none⟩), .int .u64 150] 169)).cell? ⟨0, 0, none⟩ = some (.iface 211 (.agg #[.pointer (some ⟨5, 86, none⟩)])) := by
    rw [World.cell?_alloc_lt _ _ ⟨0, 0, none⟩ (by simp), World.cell?_alloc_lt _ _ ⟨0, 0, none⟩ hlt]; exact hg
  have htl : t.block < w.heap.size := by
    rcases Nat.lt_or_ge t.block w.heap.size with h | h
    · exact h
    · simp [World.cell?, Array.getElem?_eq_none h] at ht0
  have el := asB_elemV27 ⟨w.heap.size, 0, none⟩ t (((w.alloc (.cells #[.pointer (some t)] 133)).alloc (.cells #[.pointer (some ⟨5, 133, none⟩), .pointer (some ⟨w.heap.size, 0, none⟩), .int .u64 150] 169)).alloc (.cells #[.pointer (some ⟨5, 133, none⟩), .pointer (some ⟨w.heap.size, 0, none⟩), .int .u64 150] 169)) (by rw [World.cell?_alloc_lt _ _ ⟨w.heap.size, 0, none⟩ (by simp; omega)]; simp)
  have st := asB_set25 t ⟨w.heap.size + 1 + 1 + 1, 0, none⟩ e old ((((w.alloc (.cells #[.pointer (some t)] 133)).alloc (.cells #[.pointer (some ⟨5, 133, none⟩), .pointer (some ⟨w.heap.size, 0, none⟩), .int .u64 150] 169)).alloc (.cells #[.pointer (some ⟨5, 133, none⟩), .pointer (some ⟨w.heap.size, 0, none⟩), .int .u64 150] 169)).alloc (.cells #[.pointer (some e)] 128))
    (by rw [World.cell?_alloc_at _ _ _ _ (by simp)]; rfl)
    (by rw [World.cell?_alloc_lt _ _ t (by simp; omega), World.cell?_alloc_lt _ _ t (by simp; omega), World.cell?_alloc_lt _ _ t (by simp; omega), World.cell?_alloc_lt _ _ t htl]; exact ht0)
    (by rw [World.frozen?_alloc_old _ _ t (by simp; omega), World.frozen?_alloc_old _ _ t (by simp; omega), World.frozen?_alloc_old _ _ t (by simp; omega), World.frozen?_alloc_old _ _ t (Nat.ne_of_lt htl)]; exact hf0)
  go_enter func93, ntmps93
  go_wp2
  refine wp_loop_rounds 1 ?_
  rw [rounds_succ]
  go_wp2
  go_ret
  exact ⟨rfl, rfl⟩
theorem asB_ok (e t : Nat) (v0 : Value) (w0 : World) (M : PH) (hM : On M w0) (hge : GE M) (hb : w0.heap[t]? = some (.cells #[v0] 128 (0, 0))) (hm : M t = none) : OkO Tryz.prog 93 #[.iface 128 (.pointer (some ⟨e, 0, none⟩)), .iface 133 (.pointer (some ⟨t, 0, none⟩))] w0 M t (fun M' o r => M = M' ∧ o = .cells #[.pointer (some ⟨e, 0, none⟩)] 128 (0, 0) ∧ r = .bool true) := by
  obtain ⟨T, fr, hg⟩ := hge
  have hS := hM.st1 hb hm
  refine (asB_hit ⟨e, 0, none⟩ ⟨t, 0, none⟩ v0 w0 (cell_in (hM _ _ hg) rfl) (cell_in hb rfl) (by simp [World.frozen?, hb])).mono ?_
  rintro ev w' ⟨rfl, rfl⟩
  exact ⟨_, M, _, rfl, hS.four _ _ _ _ _, PH.le.refl _, Fresh.refl _ _, rfl, rfl, rfl⟩
theorem number_nilT (w0 : World) (M : PH) (hM : On M w0) : Ok Tryz.prog 57 #[.nilIface] w0 M (fun M' r => M = M' ∧ r = .int .i64 0) := by
  have hS := hM.st
  refine enterB (l := [.nilIface]) 11 func57 rfl ntmps57 rfl ?_
  refine CW.seq ?_
  refine CW.region ?_
  refine WL.step rfl (Stp.res rfl rfl (Res.assign rfl rfl) ?_)
  refine WL.nil (Thn_n ?_)
  refine CW.seq ?_
  refine CW.seq ?_
  refine CW.region ?_
  refine WL.step rfl (Stp.alloc (cs := #[.pointer none]) rfl zt128 rfl rfl rfl hS ?_)
  intro b3_0 w hbb3_0 hS hkp hnw
  refine WL.step rfl (Stp.store1 0 (v := .pointer none) rfl rfl rfl sz128 rfl rfl hS rfl (blt_lt rfl) ?_)
  intro w hS hpt
  change St w0 _ M ([(b3_0, .cells (#[.pointer none]) 128 (0, 0))]) at hS
  refine WL.nil (Thn_n ?_)
  refine CW.seq ?_
  refine CW.region ?_
  refine WL.step rfl (Stp.res rfl rfl (Res.move rfl rfl) ?_)
  refine WL.step rfl (Stp.res rfl rfl (Res.mkIface rfl rfl underlying133 rfl) ?_)
  refine WL.step rfl (Stp.callA (args := [.nilIface, .iface 133 (.pointer (some ⟨b3_0, 0, none⟩))]) rfl rfl rfl cal93 rfl rfl ((as_nil _ _).mono fun e w' h => ⟨_, h.1, rfl, h.2⟩) ?_)
  refine WL.nil (Thn_n ?_)
  refine CW.condF rfl ?_
  refine CW.skip (Thn_n ?_)
  refine CW.seq ?_
  refine CW.region ?_
  refine WL.step rfl (Stp.res rfl rfl (Res.assign rfl rfl) ?_)
  refine WL.nil (Thn_n ?_)
  refine CW.ret ?_
  exact fq_tmp rfl rfl ⟨M, (hS.drop (i := 0) rfl hbb3_0), PH.le.refl _, Fresh.refl _ _, rfl, rfl⟩
theorem number_badT (e : Nat) (k z : Int) (w0 : World) (M : PH) (hM : On M w0) (hge : GE M) (he : Kb M e (.cells #[.int .i64 k, .int .i64 z] 130 (0, 0))) : Ok Tryz.prog 57 #[.iface 128 (.pointer (some ⟨e, 0, none⟩))] w0 M (fun M' r => M = M' ∧ r = .int .i64 z) := by
  have hS := hM.st
  refine enterB (l := [.iface 128 (.pointer (some ⟨e, 0, none⟩))]) 11 func57 rfl ntmps57 rfl ?_
  refine CW.seq ?_
  refine CW.region ?_
  refine WL.step rfl (Stp.res rfl rfl (Res.assign rfl rfl) ?_)
  refine WL.nil (Thn_n ?_)
  refine CW.seq ?_
  refine CW.seq ?_
  refine CW.region ?_
  refine WL.step rfl (Stp.alloc (cs := #[.pointer none]) rfl zt128 rfl rfl rfl hS ?_)
  intro b3_0 w hbb3_0 hS hkp hnw
  refine WL.step rfl (Stp.store1 0 (v := .pointer none) rfl rfl rfl sz128 rfl rfl hS rfl (blt_lt rfl) ?_)
  intro w hS hpt
  change St w0 _ M ([(b3_0, .cells (#[.pointer none]) 128 (0, 0))]) at hS
  refine WL.nil (Thn_n ?_)
  refine CW.seq ?_
  refine CW.region ?_
  refine WL.step rfl (Stp.res rfl rfl (Res.move rfl rfl) ?_)
  refine WL.step rfl (Stp.res rfl rfl (Res.mkIface rfl rfl underlying133 rfl) ?_)
  refine WL.step rfl (Stp.callO 0 (args := [.iface 128 (.pointer (some ⟨e, 0, none⟩)), .iface 133 (.pointer (some ⟨b3_0, 0, none⟩))]) rfl rfl rfl cal93 rfl rfl hS rfl (asB_ok e b3_0 _ _ _ hS.on hge (hS.get (i := 0) rfl) (hS.out (i := 0) rfl)) ?_)
  rintro _ w _ _ hS _ _ _ ⟨rfl, rfl, rfl⟩
  change St w0 _ M ([(b3_0, .cells (#[.pointer (some ⟨e, 0, none⟩)]) 128 (0, 0))]) at hS
  refine WL.nil (Thn_n ?_)
  refine CW.condT rfl ?_
  refine CW.seq ?_
  refine CW.region ?_
  refine WL.step rfl (Stp.res rfl rfl (Res.load1 (v := .pointer (some ⟨e, 0, none⟩)) rfl rfl underlying128 rfl (cell_in (hS.get (i := 0) rfl) rfl)) ?_)
  refine WL.step rfl (Stp.res rfl rfl (Res.nilCheck rfl rfl) ?_)
  refine WL.step rfl (Stp.res rfl rfl (Res.fieldA rfl rfl underlying130 rfl (show SZ Tryz.prog _ 1 from sz27) (by decide)) ?_)
  refine WL.step rfl (Stp.res rfl rfl (Res.load1 (v := .int .i64 (z)) rfl rfl underlying27 rfl (hS.cell (PH.cell_of he rfl))) ?_)
  refine WL.step rfl (Stp.res rfl rfl (Res.assign rfl rfl) ?_)
  refine WL.nil (Thn_n ?_)
  refine CW.ret (Thn_r ?_)
  exact fq_tmp rfl rfl ⟨M, (hS.drop (i := 0) rfl hbb3_0), PH.le.refl _, Fresh.refl _ _, rfl, rfl⟩
end Go.Proofs.YtcmgimicdcchlaaGreatDoor
set_option linter.unusedSimpArgs false
set_option linter.unusedVariables false
set_option maxRecDepth 20000
namespace Go.Proofs.YtcmgimicdcchlaaGreatDoor
open Go.Proofs.Tryz
open Go Go.E Go.Trm
theorem cal140 : Callable Tryz.prog 140 := ⟨Tryz.f140, func140, rfl, by kernel_rfl⟩
theorem cal143 : Callable Tryz.prog 143 := ⟨Tryz.f143, func143, rfl, by kernel_rfl⟩
theorem zt143 : (Tryz.prog.info? 143).map (·.zero) = some (some (.agg (bs (List.replicate 32 0)))) := by kernel_rfl
theorem extract_ok (m : List UInt8) (ma : Option Addr) (mc : Nat) (w0 : World) (M : PH) (hM : On M w0) (hgl : GL M) (hm : Bs M (.slice ma m.length mc) m) (hm9 : m.length ≤ 549755813888) : Ok Tryz.prog 140 #[.slice none 0 0, .slice ma m.length mc] w0 M (fun M' r => M = M' ∧ r = .agg (bs (Mac.sum (List.replicate 32 0) m))) := by
  have hS := hM.st
  refine enterB (l := [.slice (none) (0) (0), .slice (ma) (m.length) (mc)]) 12 func140 rfl ntmps140 rfl ?_
  refine CW.seq ?_
  refine CW.region ?_
  refine WL.step rfl (Stp.alloc (cs := bs (List.replicate 32 0)) rfl zt143 rfl rfl rfl hS ?_)
  intro b4_0 w hbb4_0 hS hkp hnw
  refine WL.nil (Thn_n ?_)
  refine CW.seq ?_
  refine CW.seq ?_
  refine CW.region ?_
  refine WL.step rfl (Stp.res rfl rfl (Res.move rfl rfl) ?_)
  refine WL.step rfl (Stp.res rfl rfl (Res.len rfl rfl rfl rfl underlying30) ?_)
  refine WL.step rfl (Stp.res rfl rfl (Res.eql rfl rfl rfl) ?_)
  refine WL.nil (Thn_n ?_)
  refine CW.condT (bT (rfl)) ?_
  refine CW.region ?_
  refine WL.step rfl (Stp.makeB (k := 32) (c := 32) rfl rfl rfl etB ⟨Nat.le_refl _, by omega⟩ rfl rfl hS ?_)
  intro b8_1 w hbb8_1 hS hkp hnw
  obtain ⟨M3, hG3, hbb8_1_3, hS⟩ : ∃ Mx, Grow w0.heap.size M Mx ∧ Kb Mx b8_1 (.cells (bs (List.replicate (32) 0)) 5 (0, 0)) ∧ St w0 w Mx ([(b4_0, .cells (bs (List.replicate 32 0)) 143 (0, 0))]) := by
    have hF := hS.freezeG (i := 0) rfl hbb8_1
    exact ⟨_, hF.2, PH.add_self _ _ _, hF.1⟩
  refine WL.step rfl (Stp.res rfl rfl (Res.assign rfl rfl) ?_)
  refine WL.nil (Thn_n ?_)
  refine CW.seq ?_
  refine CW.region ?_
  refine WL.step rfl (Stp.res rfl rfl (Res.move rfl rfl) ?_)
  refine WL.step rfl (Stp.res rfl rfl (Res.move rfl rfl) ?_)
  refine WL.step rfl (Stp.callG (args := [.slice (some ⟨b8_1, 0, none⟩) (32) (32), .slice (ma) (m.length) (mc)]) rfl rfl rfl cal104 rfl rfl hS (mac_ok _ _ (List.replicate (32) 0) (m) _ _ hS.on (hgl.mono hG3.1) (Bs.of' hbb8_1_3 (List.length_replicate ..) (by omega)) (hm.mono hG3.1) (by first | omega | (simp; done) | (simp; omega)) (by first | omega | (simp; done) | (simp; omega))) ?_)
  rintro _ w _ hS _ ⟨rfl, rfl⟩
  refine WL.step rfl (Stp.storeAllB 0 rfl rfl rfl sz143 rfl hS rfl (by simp) ?_)
  intro w hS hpt
  change St w0 _ M3 ([(b4_0, .cells (bs (Mac.sum (List.replicate (32) 0) (m))) 143 (0, 0))]) at hS
  refine WL.nil (Thn_n ?_)
  refine CW.ret ?_
  exact fq_cell rfl rfl (hS.get (i := 0) rfl) underlying143 rfl (by rw [size_bs]; simpa using sz143) ⟨M, ((hS.drop (i := 0) rfl hbb4_0).known hG3.1), PH.le.refl _, Fresh.refl _ _, rfl, rfl⟩
theorem derive_ok (m tx : List UInt8) (ma : Option Addr) (mc : Nat) (w0 : World) (M : PH) (hM : On M w0) (hgl : GL M) (hm : Bs M (.slice ma m.length mc) m) (hm9 : m.length ≤ 549755813888) (ht9 : tx.length ≤ 65536) : Ok Tryz.prog 102 #[.slice ma m.length mc, .slice none 0 0, Go.E.str tx, .int .i64 16] w0 M (fun M' r => ∃ s, r = .tuple #[s, .int .i64 0] ∧ Bs M' s (Mac.expand (Mac.sum (List.replicate 32 0) m) tx 16)) := by
  have hS := hM.st
  refine enterB (l := [.slice (ma) (m.length) (mc), .slice (none) (0) (0), Go.E.str (tx), .int .i64 ((16 : Nat) : Int)]) 20 func102 rfl ntmps102 rfl ?_
  refine CW.seq ?_
  refine CW.region ?_
  refine WL.step rfl (Stp.res rfl rfl (Res.assign rfl rfl) ?_)
  refine WL.step rfl (Stp.res rfl rfl (Res.assign rfl rfl) ?_)
  refine WL.nil (Thn_n ?_)
  refine CW.seq ?_
  refine CW.region ?_
  refine WL.step rfl (Stp.res rfl rfl (Res.move rfl rfl) ?_)
  refine WL.step rfl (Stp.res rfl rfl (Res.move rfl rfl) ?_)
  refine WL.step rfl (Stp.callG (args := [.slice (none) (0) (0), .slice (ma) (m.length) (mc)]) rfl rfl rfl cal140 rfl rfl hS (extract_ok (m) _ _ _ _ hS.on hgl hm (by first | omega | (simp; done) | (simp; omega))) ?_)
  rintro _ w _ hS _ ⟨rfl, rfl⟩
  refine WL.step rfl (Stp.alloc (cs := bs (List.replicate 32 0)) rfl zt143 rfl rfl rfl hS ?_)
  intro b10_0 w hbb10_0 hS hkp hnw
  refine WL.step rfl (Stp.storeAllB 0 rfl rfl rfl sz143 rfl hS rfl (by simp) ?_)
  intro w hS hpt
  change St w0 _ M ([(b10_0, .cells (bs (Mac.sum (List.replicate 32 0) (m))) 143 (0, 0))]) at hS
  obtain ⟨M2, hG2, hbb10_0_2, hS⟩ : ∃ Mx, Grow w0.heap.size M Mx ∧ Kb Mx b10_0 (.cells (bs (Mac.sum (List.replicate 32 0) (m))) 143 (0, 0)) ∧ St w0 w Mx ([]) := by
    have hF := hS.freezeG (i := 0) rfl hbb10_0
    exact ⟨_, hF.2, PH.add_self _ _ _, hF.1⟩
  refine WL.nil (Thn_n ?_)
  refine CW.seq ?_
  refine CW.region ?_
  refine WL.step rfl (Stp.res rfl rfl (Res.sliceA rfl rfl underlying143 (by decide) sz5) ?_)
  refine WL.step rfl (Stp.res rfl rfl (Res.move rfl rfl) ?_)
  refine WL.step rfl (Stp.res rfl rfl (Res.move rfl rfl) ?_)
  refine WL.step rfl (Stp.callG (args := [.slice (some ⟨b10_0, 0, none⟩) (32) (32), Go.E.str (tx), .int .i64 ((16 : Nat) : Int)]) rfl rfl rfl cal105 rfl rfl hS (expand_ok _ (Mac.sum (List.replicate 32 0) (m)) (tx) 16 _ _ hS.on (hgl.mono hG2.1) (Bs.of' (k := 32) hbb10_0_2 (by simp) (by omega)) (by first | omega | (simp; done) | (simp; omega)) (by first | omega | (simp; done) | (simp; omega)) (by decide)) ?_)
  rintro _ w M4 hS hG4 ⟨sx3, rfl, hx3⟩
  obtain ⟨ax3, cx3, rfl, -, -, -, -⟩ := id hx3
  refine WL.step rfl (Stp.res rfl rfl (Res.extract (l := [_, _]) rfl rfl rfl) ?_)
  refine WL.step rfl (Stp.res rfl rfl (Res.extract (l := [_, _]) rfl rfl rfl) ?_)
  refine WL.step rfl (Stp.res rfl rfl (Res.assign rfl rfl) ?_)
  refine WL.step rfl (Stp.res rfl rfl (Res.assign rfl rfl) ?_)
  refine WL.nil (Thn_n ?_)
  refine CW.ret ?_
  exact fq_tmp2 rfl rfl rfl ⟨_, hS, (hG2.trans hG4).1, (hG2.trans hG4).2, _, rfl, hx3⟩
theorem qextract_ok (m : List UInt8) (ma : Option Addr) (mc : Nat) (w0 : World) (M : PH) (hM : On M w0)  (hm : Bs M (.slice ma m.length mc) m) (hm9 : m.length ≤ 549755813888) : Ok Tryz.prog 143 #[.slice none 0 0, .slice ma m.length mc] w0 M (fun M' r => M = M' ∧ r = .agg (bs (Mac.sum (List.replicate 32 0) m))) := by
  have hS := hM.st
  refine enterB (l := [.slice (none) (0) (0), .slice (ma) (m.length) (mc)]) 12 func143 rfl ntmps143 rfl ?_
  refine CW.seq ?_
  refine CW.region ?_
  refine WL.step rfl (Stp.alloc (cs := bs (List.replicate 32 0)) rfl zt143 rfl rfl rfl hS ?_)
  intro b4_0 w hbb4_0 hS hkp hnw
  refine WL.nil (Thn_n ?_)
  refine CW.seq ?_
  refine CW.seq ?_
  refine CW.region ?_
  refine WL.step rfl (Stp.res rfl rfl (Res.move rfl rfl) ?_)
  refine WL.step rfl (Stp.res rfl rfl (Res.len rfl rfl rfl rfl underlying30) ?_)
  refine WL.step rfl (Stp.res rfl rfl (Res.eql rfl rfl rfl) ?_)
  refine WL.nil (Thn_n ?_)
  refine CW.condT (bT (rfl)) ?_
  refine CW.region ?_
  refine WL.step rfl (Stp.makeB (k := 32) (c := 32) rfl rfl rfl etB ⟨Nat.le_refl _, by omega⟩ rfl rfl hS ?_)
  intro b8_1 w hbb8_1 hS hkp hnw
  obtain ⟨M3, hG3, hbb8_1_3, hS⟩ : ∃ Mx, Grow w0.heap.size M Mx ∧ Kb Mx b8_1 (.cells (bs (List.replicate (32) 0)) 5 (0, 0)) ∧ St w0 w Mx ([(b4_0, .cells (bs (List.replicate 32 0)) 143 (0, 0))]) := by
    have hF := hS.freezeG (i := 0) rfl hbb8_1
    exact ⟨_, hF.2, PH.add_self _ _ _, hF.1⟩
  refine WL.step rfl (Stp.res rfl rfl (Res.assign rfl rfl) ?_)
  refine WL.nil (Thn_n ?_)
  refine CW.seq ?_
  refine CW.region ?_
  refine WL.step rfl (Stp.res rfl rfl (Res.move rfl rfl) ?_)
  refine WL.step rfl (Stp.res rfl rfl (Res.move rfl rfl) ?_)
  refine WL.step rfl (Stp.callG (args := [.slice (some ⟨b8_1, 0, none⟩) (32) (32), .slice (ma) (m.length) (mc)]) rfl rfl rfl cal109 rfl rfl hS (qmac_ok _ _ (List.replicate (32) 0) (m) _ _ hS.on (Bs.of' hbb8_1_3 (List.length_replicate ..) (by omega)) (hm.mono hG3.1) (by first | omega | (simp; done) | (simp; omega)) (by first | omega | (simp; done) | (simp; omega))) ?_)
  rintro _ w _ hS _ ⟨rfl, rfl⟩
  refine WL.step rfl (Stp.storeAllB 0 rfl rfl rfl sz143 rfl hS rfl (by simp) ?_)
  intro w hS hpt
  change St w0 _ M3 ([(b4_0, .cells (bs (Mac.sum (List.replicate (32) 0) (m))) 143 (0, 0))]) at hS
  refine WL.nil (Thn_n ?_)
  refine CW.ret ?_
  exact fq_cell rfl rfl (hS.get (i := 0) rfl) underlying143 rfl (by rw [size_bs]; simpa using sz143) ⟨M, ((hS.drop (i := 0) rfl hbb4_0).known hG3.1), PH.le.refl _, Fresh.refl _ _, rfl, rfl⟩
theorem qderive_ok (m tx : List UInt8) (ma : Option Addr) (mc : Nat) (w0 : World) (M : PH) (hM : On M w0)  (hm : Bs M (.slice ma m.length mc) m) (hm9 : m.length ≤ 549755813888) (ht9 : tx.length ≤ 65536) : Ok Tryz.prog 107 #[.slice ma m.length mc, .slice none 0 0, Go.E.str tx, .int .i64 16] w0 M (fun M' r => ∃ s, r = .tuple #[s, .int .i64 0] ∧ Bs M' s (Mac.expand (Mac.sum (List.replicate 32 0) m) tx 16)) := by
  have hS := hM.st
  refine enterB (l := [.slice (ma) (m.length) (mc), .slice (none) (0) (0), Go.E.str (tx), .int .i64 ((16 : Nat) : Int)]) 20 func107 rfl ntmps107 rfl ?_
  refine CW.seq ?_
  refine CW.region ?_
  refine WL.step rfl (Stp.res rfl rfl (Res.assign rfl rfl) ?_)
  refine WL.step rfl (Stp.res rfl rfl (Res.assign rfl rfl) ?_)
  refine WL.nil (Thn_n ?_)
  refine CW.seq ?_
  refine CW.region ?_
  refine WL.step rfl (Stp.res rfl rfl (Res.move rfl rfl) ?_)
  refine WL.step rfl (Stp.res rfl rfl (Res.move rfl rfl) ?_)
  refine WL.step rfl (Stp.callG (args := [.slice (none) (0) (0), .slice (ma) (m.length) (mc)]) rfl rfl rfl cal143 rfl rfl hS (qextract_ok (m) _ _ _ _ hS.on hm (by first | omega | (simp; done) | (simp; omega))) ?_)
  rintro _ w _ hS _ ⟨rfl, rfl⟩
  refine WL.step rfl (Stp.alloc (cs := bs (List.replicate 32 0)) rfl zt143 rfl rfl rfl hS ?_)
  intro b10_0 w hbb10_0 hS hkp hnw
  refine WL.step rfl (Stp.storeAllB 0 rfl rfl rfl sz143 rfl hS rfl (by simp) ?_)
  intro w hS hpt
  change St w0 _ M ([(b10_0, .cells (bs (Mac.sum (List.replicate 32 0) (m))) 143 (0, 0))]) at hS
  obtain ⟨M2, hG2, hbb10_0_2, hS⟩ : ∃ Mx, Grow w0.heap.size M Mx ∧ Kb Mx b10_0 (.cells (bs (Mac.sum (List.replicate 32 0) (m))) 143 (0, 0)) ∧ St w0 w Mx ([]) := by
    have hF := hS.freezeG (i := 0) rfl hbb10_0
    exact ⟨_, hF.2, PH.add_self _ _ _, hF.1⟩
  refine WL.nil (Thn_n ?_)
  refine CW.seq ?_
  refine CW.region ?_
  refine WL.step rfl (Stp.res rfl rfl (Res.sliceA rfl rfl underlying143 (by decide) sz5) ?_)
  refine WL.step rfl (Stp.res rfl rfl (Res.move rfl rfl) ?_)
  refine WL.step rfl (Stp.res rfl rfl (Res.move rfl rfl) ?_)
  refine WL.step rfl (Stp.callG (args := [.slice (some ⟨b10_0, 0, none⟩) (32) (32), Go.E.str (tx), .int .i64 ((16 : Nat) : Int)]) rfl rfl rfl cal110 rfl rfl hS (qexpand_ok _ (Mac.sum (List.replicate 32 0) (m)) (tx) 16 _ _ hS.on (Bs.of' (k := 32) hbb10_0_2 (by simp) (by omega)) (by first | omega | (simp; done) | (simp; omega)) (by first | omega | (simp; done) | (simp; omega)) (by decide)) ?_)
  rintro _ w M4 hS hG4 ⟨sx3, rfl, hx3⟩
  obtain ⟨ax3, cx3, rfl, -, -, -, -⟩ := id hx3
  refine WL.step rfl (Stp.res rfl rfl (Res.extract (l := [_, _]) rfl rfl rfl) ?_)
  refine WL.step rfl (Stp.res rfl rfl (Res.extract (l := [_, _]) rfl rfl rfl) ?_)
  refine WL.step rfl (Stp.res rfl rfl (Res.assign rfl rfl) ?_)
  refine WL.step rfl (Stp.res rfl rfl (Res.assign rfl rfl) ?_)
  refine WL.nil (Thn_n ?_)
  refine CW.ret ?_
  exact fq_tmp2 rfl rfl rfl ⟨_, hS, (hG2.trans hG4).1, (hG2.trans hG4).2, _, rfl, hx3⟩
theorem list_ok (l : List (List UInt8)) (va : Option Addr) (vc : Nat) (w0 : World) (M : PH) (hM : On M w0) (hv : Ls M (.slice va l.length vc) l) : Ok Tryz.prog 103 #[.slice va l.length vc] w0 M (fun M' r => ∃ s, r = .tuple #[s, .int .i64 (listP l).2] ∧ Bs M' s (listP l).1) := by
  have hS := hM.st
  have hbl := hv.len
  refine enterB (l := [.slice (va) (l.length) (vc)]) 43 func103 rfl ntmps103 rfl ?_
  refine CW.seq ?_
  refine CW.region ?_
  refine WL.step rfl (Stp.res rfl rfl (Res.assign rfl rfl) ?_)
  refine WL.step rfl (Stp.res rfl rfl (Res.assign rfl rfl) ?_)
  refine WL.nil (Thn_n ?_)
  refine CW.seq ?_
  refine CW.seq ?_
  refine CW.region ?_
  refine WL.step rfl (Stp.res rfl rfl (Res.move rfl rfl) ?_)
  refine WL.step rfl (Stp.res rfl rfl (Res.len rfl rfl rfl rfl underlying94) ?_)
  refine WL.step rfl (Stp.res rfl rfl (Res.gtr rfl rfl rfl) ?_)
  refine WL.nil (Thn_n ?_)
  refine CW.ite rfl (fun hc1 => ?_) (fun hc1 => ?_)
  · refine CW.seq ?_
    refine CW.region ?_
    refine WL.step rfl (Stp.res rfl rfl (Res.assign rfl rfl) ?_)
    refine WL.step rfl (Stp.res rfl rfl (Res.assign rfl rfl) ?_)
    refine WL.nil (Thn_n ?_)
    refine CW.ret (Thn_r ?_)
    have hno : listP l = ([], 3) := listP_long (by omega)
    rw [hno]
    exact fq_tmp2 rfl rfl rfl ⟨M, hS, PH.le.refl _, Fresh.refl _ _, _, rfl, Bs.nil _⟩
  · refine CW.skip (Thn_n ?_)
    refine CW.seq ?_
    refine CW.region ?_
    refine WL.step rfl (Stp.res rfl rfl (Res.assign rfl rfl) ?_)
    refine WL.nil (Thn_n ?_)
    refine CW.seq ?_
    refine CW.seq ?_
    refine CW.region ?_
    refine WL.step rfl (Stp.res rfl rfl (Res.move rfl rfl) ?_)
    refine WL.step rfl (Stp.res rfl rfl (Res.len rfl rfl rfl rfl underlying94) ?_)
    refine WL.step rfl (Stp.res rfl rfl (Res.move rfl rfl) ?_)
    refine WL.nil (Thn_n ?_)
    refine CW.block ?_
    refine CW.loop (σ := Nat × Owned × Option Addr × Nat) (fun s => [(4, .slice ((s.2.2.1)) ((listB (l.take (s.1))).length) ((s.2.2.2))), (10, .slice (va) (l.length) (vc)), (11, .int .i64 ((l.length : Nat) : Int)), (12, .int .i64 (((s.1) : Nat) : Int))])
      (fun s w' => (s.1) ≤ l.length ∧ (listB (l.take (s.1))).length ≤ 4096 ∧ OwnB w0.heap.size (s.2.1) (.slice (s.2.2.1) (listB (l.take (s.1))).length (s.2.2.2)) (listB (l.take (s.1))) 5 ∧ St w0 w' M ((s.2.1) ++ ([]))) (fun s => l.length - (s.1)) (0, ([] : Owned), none, 0) ⟨rfl, rfl, rfl, rfl, trivial⟩ ⟨by dsimp only; omega, by simp [listB], OwnB.nil _ _, hS⟩ ?_
    rintro ⟨i, g, oa, oc⟩ w ⟨hi, hsz, hown, hS⟩
    dsimp only at hi hsz hown hS ⊢
    refine CW.seq ?_
    refine CW.region ?_
    refine WL.step rfl (Stp.res rfl rfl (Res.lss rfl rfl rfl) ?_)
    refine WL.nil (Thn_n ?_)
    refine CW.seq ?_
    refine CW.ite rfl (fun hc2 => ?_) (fun hc2 => ?_)
    · refine CW.skip (Thn_n ?_)
      refine CW.seq ?_
      refine CW.block ?_
      refine CW.seq ?_
      refine CW.region ?_
      obtain ⟨be3, oe3, dae3, dce3, eae3, hce3, hde3⟩ := Ls.get (j := i) hv (by omega)
      have hne3 := hde3.len
      refine WL.step rfl (Stp.res rfl rfl (Res.idxT1 (k := i) rfl rfl eae3 rfl underlying94 sz30 (Int.toNat_natCast _) (by omega)) ?_)
      refine WL.step rfl (Stp.res rfl rfl (Res.load1 (v := .slice (dae3) ((l.getD i []).length) (dce3)) rfl rfl underlying30 rfl (hS.cell hce3)) ?_)
      refine WL.step rfl (Stp.res rfl rfl (Res.assign rfl rfl) ?_)
      refine WL.nil (Thn_n ?_)
      refine CW.seq ?_
      refine CW.seq ?_
      refine CW.region ?_
      refine WL.step rfl (Stp.res rfl rfl (Res.move rfl rfl) ?_)
      refine WL.step rfl (Stp.res rfl rfl (Res.len rfl rfl rfl rfl underlying30) ?_)
      refine WL.step rfl (Stp.res rfl rfl (Res.gtr rfl rfl rfl) ?_)
      refine WL.step rfl (Stp.res rfl rfl (Res.move rfl rfl) ?_)
      by_cases hg4 : ((4096 : Nat) : Int) < (((l.getD i []).length : Nat) : Int)
      · refine WL.skipG 3 false rfl rfl rfl (bT hg4) rfl rfl ?_
        refine WL.skipG 3 false rfl rfl rfl (bT hg4) rfl rfl ?_
        refine WL.skipG 3 false rfl rfl rfl (bT hg4) rfl rfl ?_
        refine WL.skipG 3 false rfl rfl rfl (bT hg4) rfl rfl ?_
        refine WL.skipG 3 false rfl rfl rfl (bT hg4) rfl rfl ?_
        refine WL.skipG 3 false rfl rfl rfl (bT hg4) rfl rfl ?_
        refine WL.skipG 3 false rfl rfl rfl (bT hg4) rfl rfl ?_
        refine WL.step rfl (Stp.res rfl rfl (Res.pickT rfl (bT hg4) rfl) ?_)
        refine WL.nil (Thn_n ?_)
        refine CW.condT rfl ?_
        refine CW.seq ?_
        refine CW.region ?_
        refine WL.step rfl (Stp.res rfl rfl (Res.assign rfl rfl) ?_)
        refine WL.step rfl (Stp.res rfl rfl (Res.assign rfl rfl) ?_)
        refine WL.nil (Thn_n ?_)
        refine CW.ret (Thn_r (Blk_r (Thn_r (Thn_r (Blk_r (Thn_r ?_))))))
        have hno : listP l = ([], 3) := listP_no (i := i) (by omega) (by omega)
        rw [hno]
        exact fq_tmp2 rfl rfl rfl ⟨M, (hown.dropS hS), PH.le.refl _, Fresh.refl _ _, _, rfl, Bs.nil _⟩
      · refine WL.stepG 3 false rfl rfl rfl (bF hg4) (Stp.res rfl rfl (Res.move rfl rfl) ?_)
        refine WL.stepG 3 false rfl rfl rfl (bF hg4) (Stp.res rfl rfl (Res.len rfl rfl rfl rfl underlying30) ?_)
        refine WL.stepG 3 false rfl rfl rfl (bF hg4) (Stp.res rfl rfl (Res.cast (Res.add rfl rfl rfl (by omega)) (show _ = (.int .i64 (((listB (l.take i)).length + 2 : Nat) : Int) : Value) from congrArg (Value.int .i64) (by omega))) ?_)
        refine WL.stepG 3 false rfl rfl rfl (bF hg4) (Stp.res rfl rfl (Res.move rfl rfl) ?_)
        refine WL.stepG 3 false rfl rfl rfl (bF hg4) (Stp.res rfl rfl (Res.len rfl rfl rfl rfl underlying30) ?_)
        refine WL.stepG 3 false rfl rfl rfl (bF hg4) (Stp.res rfl rfl (Res.cast (Res.add rfl rfl rfl (by omega)) (show _ = (.int .i64 (((listB (l.take i)).length + 2 + (l.getD i []).length : Nat) : Int) : Value) from congrArg (Value.int .i64) (by omega))) ?_)
        refine WL.stepG 3 false rfl rfl rfl (bF hg4) (Stp.res rfl rfl (Res.gtr rfl rfl rfl) ?_)
        refine WL.step rfl (Stp.res rfl rfl (Res.pickF rfl (bF hg4) rfl) ?_)
        refine WL.nil (Thn_n ?_)
        refine CW.ite rfl (fun hc5 => ?_) (fun hc5 => ?_)
        · refine CW.seq ?_
          refine CW.region ?_
          refine WL.step rfl (Stp.res rfl rfl (Res.assign rfl rfl) ?_)
          refine WL.step rfl (Stp.res rfl rfl (Res.assign rfl rfl) ?_)
          refine WL.nil (Thn_n ?_)
          refine CW.ret (Thn_r (Blk_r (Thn_r (Thn_r (Blk_r (Thn_r ?_))))))
          have hno : listP l = ([], 3) := listP_no (i := i) (by omega) (by omega)
          rw [hno]
          exact fq_tmp2 rfl rfl rfl ⟨M, (hown.dropS hS), PH.le.refl _, Fresh.refl _ _, _, rfl, Bs.nil _⟩
        · refine CW.skip (Thn_n ?_)
          refine CW.seq ?_
          refine CW.region ?_
          refine WL.step rfl (Stp.res rfl rfl (Res.move rfl rfl) ?_)
          refine WL.step rfl (Stp.res rfl rfl (Res.move rfl rfl) ?_)
          refine WL.step rfl (Stp.res rfl rfl (Res.len rfl rfl rfl rfl underlying30) ?_)
          refine WL.step rfl (Stp.res rfl rfl (Res.shrU (a := (l.getD i []).length) (s := 8) rfl rfl rfl (by decide)) ?_)
          refine WL.step rfl (Stp.res rfl rfl (Res.convB (k := (l.getD i []).length / 2 ^ 8) rfl rfl underlying3 underlying5) ?_)
          refine WL.step rfl (Stp.res rfl rfl (Res.move rfl rfl) ?_)
          refine WL.step rfl (Stp.res rfl rfl (Res.len rfl rfl rfl rfl underlying30) ?_)
          refine WL.step rfl (Stp.res rfl rfl (Res.convB (k := (l.getD i []).length) rfl rfl underlying3 underlying5) ?_)
          refine WL.step rfl (Stp.lit (vals := [(0, byte (UInt8.ofNat ((l.getD i []).length / 2 ^ 8))), (1, byte (UInt8.ofNat ((l.getD i []).length)))]) (cs := bs [UInt8.ofNat ((l.getD i []).length / 2 ^ 8), UInt8.ofNat ((l.getD i []).length)]) (e := 5) rfl rfl (fun _ => by kernel_rfl) rfl rfl hS ?_)
          intro b36_5 w hbb36_5 hS hkp hnw
          obtain ⟨M7, hG7, hbb36_5_7, hS⟩ : ∃ Mx, Grow w0.heap.size M Mx ∧ Kb Mx b36_5 (.cells (bs [UInt8.ofNat ((l.getD i []).length / 2 ^ 8), UInt8.ofNat ((l.getD i []).length)]) 5 (0, 0)) ∧ St w0 w Mx (g ++ ([])) := by
            have hF := hS.freezeG (i := 0) rfl hbb36_5
            exact ⟨_, hF.2, PH.add_self _ _ _, hF.1⟩
          refine WL.step rfl (Stp.appendB (l := listB (l.take i)) (r := [UInt8.ofNat ((l.getD i []).length / 2 ^ 8), UInt8.ofNat ((l.getD i []).length)]) rfl rfl rfl rfl etB (Src.ofBs underlying30 hS (Bs.of' hbb36_5_7 rfl (by decide))) hS hown (by simp only [List.length_append, List.length_cons, List.length_nil]; omega) rfl rfl ?_)
          intro vw8 w gw8 hS howw8
          obtain ⟨aw8, cw8, rfl, l1w8, l2w8⟩ := howw8.slice
          have hlw8 : (listB (l.take i) ++ [UInt8.ofNat ((l.getD i []).length / 2 ^ 8), UInt8.ofNat ((l.getD i []).length)]).length = (listB (l.take i)).length + 2 := List.length_append
          refine WL.step rfl (Stp.res rfl rfl (Res.assign rfl rfl) ?_)
          refine WL.nil (Thn_n ?_)
          refine CW.region ?_
          refine WL.step rfl (Stp.res rfl rfl (Res.move rfl rfl) ?_)
          refine WL.step rfl (Stp.res rfl rfl (Res.move rfl rfl) ?_)
          refine WL.step rfl (Stp.appendB (l := listB (l.take i) ++ [UInt8.ofNat ((l.getD i []).length / 2 ^ 8), UInt8.ofNat ((l.getD i []).length)]) (r := (l.getD i [])) rfl rfl rfl rfl etB (Src.ofBs underlying30 hS (hde3.mono hG7.1)) hS howw8 (by simp only [List.length_append, List.length_cons, List.length_nil]; omega) rfl rfl ?_)
          intro vw9 w gw9 hS howw9
          obtain ⟨aw9, cw9, rfl, l1w9, l2w9⟩ := howw9.slice
          have hlw9 : (listB (l.take i) ++ [UInt8.ofNat ((l.getD i []).length / 2 ^ 8), UInt8.ofNat ((l.getD i []).length)] ++ ((l.getD i []))).length = (listB (l.take i) ++ [UInt8.ofNat ((l.getD i []).length / 2 ^ 8), UInt8.ofNat ((l.getD i []).length)]).length + ((l.getD i [])).length := List.length_append
          refine WL.step rfl (Stp.res rfl rfl (Res.assign rfl rfl) ?_)
          refine WL.nil (Blk_n (Thn_n ?_))
          refine CW.region ?_
          refine WL.step rfl (Stp.res rfl rfl (Res.cast (Res.add rfl rfl rfl (by omega)) (show _ = (.int .i64 ((i + 1 : Nat) : Int) : Value) from congrArg (Value.int .i64) (by omega))) ?_)
          refine WL.step rfl (Stp.res rfl rfl (Res.move rfl rfl) ?_)
          refine WL.nil (Thn_n ?_)
          have hlt9 := listB_len (l := l) (i := i) (by omega)
          rw [← listB_take (by omega)] at howw9
          exact ⟨(i + 1, gw9, aw9, cw9), ⟨(by rw [listB_take (by omega)]; rfl), (rfl), (rfl), (by first | rfl | exact intc (by omega)), trivial⟩, ⟨by dsimp only; omega, by dsimp only; omega, howw9, hS.known hG7.1⟩, by dsimp only; omega⟩
    · refine CW.exit (Thn_x (Thn_x (Blk_x (Thn_n ?_))))
      refine CW.seq ?_
      refine CW.region ?_
      refine WL.step rfl (Stp.res rfl rfl (Res.move rfl rfl) ?_)
      refine WL.step rfl (Stp.res rfl rfl (Res.assign rfl rfl) ?_)
      refine WL.step rfl (Stp.res rfl rfl (Res.assign rfl rfl) ?_)
      refine WL.nil (Thn_n ?_)
      refine CW.ret ?_
      obtain rfl : i = l.length := by omega
      rw [List.take_length] at *
      have hyes : listP l = (listB l, 0) := listP_yes (by omega) hsz
      rw [hyes]
      obtain ⟨M10, hS, hlegv11, hfrgv11, hgv11⟩ := hown.give hS
      have hG10 : Grow w0.heap.size M M10 := ⟨hlegv11, hfrgv11⟩
      exact fq_tmp2 rfl rfl rfl ⟨_, hS, hG10.1, hG10.2, _, rfl, hgv11⟩
theorem qlist_ok (l : List (List UInt8)) (va : Option Addr) (vc : Nat) (w0 : World) (M : PH) (hM : On M w0) (hv : Ls M (.slice va l.length vc) l) : Ok Tryz.prog 108 #[.slice va l.length vc] w0 M (fun M' r => ∃ s, r = .tuple #[s, .int .i64 (listP l).2] ∧ Bs M' s (listP l).1) := by
  have hS := hM.st
  have hbl := hv.len
  refine enterB (l := [.slice (va) (l.length) (vc)]) 49 func108 rfl ntmps108 rfl ?_
  refine CW.seq ?_
  refine CW.region ?_
  refine WL.step rfl (Stp.res rfl rfl (Res.assign rfl rfl) ?_)
  refine WL.step rfl (Stp.res rfl rfl (Res.assign rfl rfl) ?_)
  refine WL.nil (Thn_n ?_)
  refine CW.seq ?_
  refine CW.seq ?_
  refine CW.region ?_
  refine WL.step rfl (Stp.res rfl rfl (Res.move rfl rfl) ?_)
  refine WL.step rfl (Stp.res rfl rfl (Res.len rfl rfl rfl rfl underlying94) ?_)
  refine WL.step rfl (Stp.res rfl rfl (Res.gtr rfl rfl rfl) ?_)
  refine WL.nil (Thn_n ?_)
  refine CW.ite rfl (fun hc1 => ?_) (fun hc1 => ?_)
  · refine CW.seq ?_
    refine CW.region ?_
    refine WL.step rfl (Stp.res rfl rfl (Res.assign rfl rfl) ?_)
    refine WL.step rfl (Stp.res rfl rfl (Res.assign rfl rfl) ?_)
    refine WL.nil (Thn_n ?_)
    refine CW.ret (Thn_r ?_)
    have hno : listP l = ([], 3) := listP_long (by omega)
    rw [hno]
    exact fq_tmp2 rfl rfl rfl ⟨M, hS, PH.le.refl _, Fresh.refl _ _, _, rfl, Bs.nil _⟩
  · refine CW.skip (Thn_n ?_)
    refine CW.seq ?_
    refine CW.region ?_
    refine WL.step rfl (Stp.lit (vals := []) (cs := #[]) (e := 5) rfl rfl (fun _ => by kernel_rfl) rfl rfl hS ?_)
    intro b9_1 w hbb9_1 hS hkp hnw
    have howw3 : OwnB w0.heap.size [(b9_1, Obj.cells #[] 5 (0, 0))] (.slice (some ⟨b9_1, 0, none⟩) 0 0) [] 5 := OwnB.of (l := []) hbb9_1 (Nat.le_refl 0) (by omega) [] rfl rfl
    change St w0 _ M ([(b9_1, Obj.cells #[] 5 (0, 0))] ++ ([])) at hS
    refine WL.step rfl (Stp.res rfl rfl (Res.assign rfl rfl) ?_)
    refine WL.nil (Thn_n ?_)
    refine CW.seq ?_
    refine CW.seq ?_
    refine CW.region ?_
    refine WL.step rfl (Stp.res rfl rfl (Res.assign rfl rfl) ?_)
    refine WL.nil (Thn_n ?_)
    refine CW.block ?_
    refine CW.loop (σ := Nat × Owned × Option Addr × Nat) (fun s => [(0, .slice (va) (l.length) (vc)), (4, .slice ((s.2.2.1)) ((listB (l.take (s.1))).length) ((s.2.2.2))), (5, .int .i64 (((s.1) : Nat) : Int))])
      (fun s w' => (s.1) ≤ l.length ∧ (listB (l.take (s.1))).length ≤ 4096 ∧ OwnB w0.heap.size (s.2.1) (.slice (s.2.2.1) (listB (l.take (s.1))).length (s.2.2.2)) (listB (l.take (s.1))) 5 ∧ St w0 w' M ((s.2.1) ++ ([]))) (fun s => l.length - (s.1)) (0, [(b9_1, Obj.cells #[] 5 (0, 0))], some ⟨b9_1, 0, none⟩, 0) ⟨rfl, rfl, rfl, trivial⟩ ⟨by dsimp only; omega, by simp [listB], howw3, hS⟩ ?_
    rintro ⟨i, g, oa, oc⟩ w ⟨hi, hsz, hown, hS⟩
    dsimp only at hi hsz hown hS ⊢
    refine CW.seq ?_
    refine CW.seq ?_
    refine CW.region ?_
    refine WL.step rfl (Stp.res rfl rfl (Res.move rfl rfl) ?_)
    refine WL.step rfl (Stp.res rfl rfl (Res.move rfl rfl) ?_)
    refine WL.step rfl (Stp.res rfl rfl (Res.len rfl rfl rfl rfl underlying94) ?_)
    refine WL.step rfl (Stp.res rfl rfl (Res.lss rfl rfl rfl) ?_)
    refine WL.nil (Thn_n ?_)
    refine CW.ite rfl (fun hc4 => ?_) (fun hc4 => ?_)
    · refine CW.skip (Thn_n ?_)
      refine CW.seq ?_
      refine CW.block ?_
      refine CW.seq ?_
      refine CW.seq ?_
      refine CW.region ?_
      refine WL.step rfl (Stp.res rfl rfl (Res.move rfl rfl) ?_)
      refine WL.step rfl (Stp.res rfl rfl (Res.move rfl rfl) ?_)
      obtain ⟨be5, oe5, dae5, dce5, eae5, hce5, hde5⟩ := Ls.get (j := i) hv (by omega)
      have hne5 := hde5.len
      refine WL.step rfl (Stp.res rfl rfl (Res.idxT1 (k := i) rfl rfl eae5 rfl underlying94 sz30 (Int.toNat_natCast _) (by omega)) ?_)
      refine WL.step rfl (Stp.res rfl rfl (Res.load1 (v := .slice (dae5) ((l.getD i []).length) (dce5)) rfl rfl underlying30 rfl (hS.cell hce5)) ?_)
      refine WL.step rfl (Stp.res rfl rfl (Res.len rfl rfl rfl rfl underlying30) ?_)
      refine WL.step rfl (Stp.res rfl rfl (Res.gtr rfl rfl rfl) ?_)
      refine WL.nil (Thn_n ?_)
      refine CW.ite rfl (fun hc6 => ?_) (fun hc6 => ?_)
      · refine CW.seq ?_
        refine CW.region ?_
        refine WL.step rfl (Stp.res rfl rfl (Res.assign rfl rfl) ?_)
        refine WL.step rfl (Stp.res rfl rfl (Res.assign rfl rfl) ?_)
        refine WL.nil (Thn_n ?_)
        refine CW.ret (Thn_r (Blk_r (Thn_r (Thn_r (Blk_r (Thn_r ?_))))))
        have hno : listP l = ([], 3) := listP_no (i := i) (by omega) (by omega)
        rw [hno]
        exact fq_tmp2 rfl rfl rfl ⟨M, (hown.dropS hS), PH.le.refl _, Fresh.refl _ _, _, rfl, Bs.nil _⟩
      · refine CW.skip (Thn_n ?_)
        refine CW.seq ?_
        have hS := hS.drew
        have hK0 : On M w := hS.on
        refine CW.held (fun w => On M w) mixed ?_
        refine AL.take 0 rfl (by kernel_rfl) (by kernel_rfl) (by kernel_rfl) rfl rfl rfl hK0 (fun w hK => Res.move rfl rfl) ?_
        refine AL.take 1 rfl (by kernel_rfl) (by kernel_rfl) (by kernel_rfl) rfl rfl rfl hK0 (fun w hK => Res.move rfl rfl) ?_
        refine AL.take 2 rfl (by kernel_rfl) (by kernel_rfl) (by kernel_rfl) rfl rfl rfl hK0 (fun w hK => Res.move rfl rfl) ?_
        refine AL.take 3 rfl (by kernel_rfl) (by kernel_rfl) (by kernel_rfl) rfl rfl rfl hK0 (fun w hK => Res.idxT1 (k := i) rfl rfl eae5 rfl underlying94 sz30 (Int.toNat_natCast _) (by omega)) ?_
        refine AL.take 4 rfl (by kernel_rfl) (by kernel_rfl) (by kernel_rfl) rfl rfl rfl hK0 (fun w hK => Res.load1 (v := .slice (dae5) ((l.getD i []).length) (dce5)) rfl rfl underlying30 rfl (hK.st.cell hce5)) ?_
        refine AL.take 5 rfl (by kernel_rfl) (by kernel_rfl) (by kernel_rfl) rfl rfl rfl hK0 (fun w hK => Res.len rfl rfl rfl rfl underlying30) ?_
        refine AL.take 6 rfl (by kernel_rfl) (by kernel_rfl) (by kernel_rfl) rfl rfl rfl hK0 (fun w hK => Res.cast (Res.quo rfl rfl rfl (by omega)) (show _ = (.int .i64 ((((l.getD i []).length) / (256) : Nat) : Int) : Value) from rfl)) ?_
        refine AL.take 7 rfl (by kernel_rfl) (by kernel_rfl) (by kernel_rfl) rfl rfl rfl hK0 (fun w hK => Res.convB (k := (l.getD i []).length / 2 ^ 8) rfl rfl underlying3 underlying5) ?_
        refine AL.take 8 rfl (by kernel_rfl) (by kernel_rfl) (by kernel_rfl) rfl rfl rfl hK0 (fun w hK => Res.move rfl rfl) ?_
        refine AL.take 9 rfl (by kernel_rfl) (by kernel_rfl) (by kernel_rfl) rfl rfl rfl hK0 (fun w hK => Res.move rfl rfl) ?_
        refine AL.take 10 rfl (by kernel_rfl) (by kernel_rfl) (by kernel_rfl) rfl rfl rfl hK0 (fun w hK => Res.idxT1 (k := i) rfl rfl eae5 rfl underlying94 sz30 (Int.toNat_natCast _) (by omega)) ?_
        refine AL.take 11 rfl (by kernel_rfl) (by kernel_rfl) (by kernel_rfl) rfl rfl rfl hK0 (fun w hK => Res.load1 (v := .slice (dae5) ((l.getD i []).length) (dce5)) rfl rfl underlying30 rfl (hK.st.cell hce5)) ?_
        refine AL.take 12 rfl (by kernel_rfl) (by kernel_rfl) (by kernel_rfl) rfl rfl rfl hK0 (fun w hK => Res.len rfl rfl rfl rfl underlying30) ?_
        refine AL.take 13 rfl (by kernel_rfl) (by kernel_rfl) (by kernel_rfl) rfl rfl rfl hK0 (fun w hK => Res.cast (Res.rem rfl rfl rfl (by omega)) (show _ = (.int .i64 ((((l.getD i []).length) % (256) : Nat) : Int) : Value) from rfl)) ?_
        refine AL.take 14 rfl (by kernel_rfl) (by kernel_rfl) (by kernel_rfl) rfl rfl rfl hK0 (fun w hK => Res.cast (Res.convB (k := ((l.getD i []).length) % (256)) rfl rfl underlying3 underlying5) (v' := byte (UInt8.ofNat (l.getD i []).length)) (congrArg byte (Tick.ofNat_mod _))) ?_
        refine AL.one 15 rfl (by kernel_rfl) rfl (Stp.lit (vals := [(0, byte (UInt8.ofNat ((l.getD i []).length / 2 ^ 8))), (1, byte (UInt8.ofNat (l.getD i []).length))]) (cs := bs [UInt8.ofNat ((l.getD i []).length / 2 ^ 8), UInt8.ofNat (l.getD i []).length]) (e := 5) rfl rfl (fun _ => by kernel_rfl) rfl rfl hS ?_)
        intro b37_7 w hbb37_7 hS hkp hnw
        obtain ⟨M9, hG9, hbb37_7_9, hS⟩ : ∃ Mx, Grow w0.heap.size M Mx ∧ Kb Mx b37_7 (.cells (bs [UInt8.ofNat ((l.getD i []).length / 2 ^ 8), UInt8.ofNat (l.getD i []).length]) 5 (0, 0)) ∧ St w0 w Mx (g ++ ([])) := by
          have hF := hS.freezeG (i := 0) rfl hbb37_7
          exact ⟨_, hF.2, PH.add_self _ _ _, hF.1⟩
        have hK0 : On M w := (hS.known hG9.1).on
        refine ⟨hK0, ?_⟩
        refine AL.one 16 rfl (by kernel_rfl) rfl (Stp.appendB (l := listB (l.take i)) (r := [UInt8.ofNat ((l.getD i []).length / 2 ^ 8), UInt8.ofNat (l.getD i []).length]) rfl rfl rfl rfl etB (Src.ofBs underlying30 hS (Bs.of' hbb37_7_9 rfl (by decide))) hS hown (by simp only [List.length_append, List.length_cons, List.length_nil]; omega) rfl rfl ?_)
        intro vw10 w gw10 hS howw10
        obtain ⟨aw10, cw10, rfl, l1w10, l2w10⟩ := howw10.slice
        have hlw10 : (listB (l.take i) ++ [UInt8.ofNat ((l.getD i []).length / 2 ^ 8), UInt8.ofNat (l.getD i []).length]).length = (listB (l.take i)).length + 2 := List.length_append
        have hK0 : On M w := (hS.known hG9.1).on
        refine ⟨hK0, ?_⟩
        refine AL.take 17 rfl (by kernel_rfl) (by kernel_rfl) (by kernel_rfl) rfl rfl rfl hK0 (fun w hK => Res.assign rfl rfl) ?_
        refine AL.done (by kernel_rfl) (Thn_n ?_)
        refine CW.seq ?_
        refine CW.region ?_
        refine WL.step rfl (Stp.res rfl rfl (Res.move rfl rfl) ?_)
        refine WL.step rfl (Stp.res rfl rfl (Res.move rfl rfl) ?_)
        refine WL.step rfl (Stp.res rfl rfl (Res.move rfl rfl) ?_)
        refine WL.step rfl (Stp.res rfl rfl (Res.idxT1 (k := i) rfl rfl eae5 rfl underlying94 sz30 (Int.toNat_natCast _) (by omega)) ?_)
        refine WL.step rfl (Stp.res rfl rfl (Res.load1 (v := .slice (dae5) ((l.getD i []).length) (dce5)) rfl rfl underlying30 rfl (hS.cell (PH.cell_mono hG9.1 hce5))) ?_)
        refine WL.step rfl (Stp.appendB (l := listB (l.take i) ++ [UInt8.ofNat ((l.getD i []).length / 2 ^ 8), UInt8.ofNat (l.getD i []).length]) (r := (l.getD i [])) rfl rfl rfl rfl etB (Src.ofBs underlying30 hS (hde5.mono hG9.1)) hS howw10 (by simp only [List.length_append, List.length_cons, List.length_nil]; omega) rfl rfl ?_)
        intro vw11 w gw11 hS howw11
        obtain ⟨aw11, cw11, rfl, l1w11, l2w11⟩ := howw11.slice
        have hlw11 : (listB (l.take i) ++ [UInt8.ofNat ((l.getD i []).length / 2 ^ 8), UInt8.ofNat (l.getD i []).length] ++ ((l.getD i []))).length = (listB (l.take i) ++ [UInt8.ofNat ((l.getD i []).length / 2 ^ 8), UInt8.ofNat (l.getD i []).length]).length + ((l.getD i [])).length := List.length_append
        refine WL.step rfl (Stp.res rfl rfl (Res.assign rfl rfl) ?_)
        refine WL.nil (Thn_n ?_)
        refine CW.seq ?_
        refine CW.region ?_
        refine WL.step rfl (Stp.res rfl rfl (Res.move rfl rfl) ?_)
        refine WL.step rfl (Stp.res rfl rfl (Res.len rfl rfl rfl rfl underlying30) ?_)
        refine WL.step rfl (Stp.res rfl rfl (Res.gtr rfl rfl rfl) ?_)
        refine WL.nil (Thn_n ?_)
        refine CW.ite rfl (fun hc12 => ?_) (fun hc12 => ?_)
        · refine CW.seq ?_
          refine CW.region ?_
          refine WL.step rfl (Stp.res rfl rfl (Res.assign rfl rfl) ?_)
          refine WL.step rfl (Stp.res rfl rfl (Res.assign rfl rfl) ?_)
          refine WL.nil (Thn_n ?_)
          refine CW.ret (Blk_r (Thn_r (Thn_r (Blk_r (Thn_r ?_)))))
          have hno : listP l = ([], 3) := listP_no (i := i) (by omega) (by omega)
          rw [hno]
          exact fq_tmp2 rfl rfl rfl ⟨_, (howw11.dropS hS), hG9.1, hG9.2, _, rfl, Bs.nil _⟩
        · refine CW.skip (Blk_n (Thn_n ?_))
          refine CW.region ?_
          refine WL.step rfl (Stp.res rfl rfl (Res.move rfl rfl) ?_)
          refine WL.step rfl (Stp.res rfl rfl (Res.cast (Res.add rfl rfl rfl (by omega)) (show _ = (.int .i64 ((i + 1 : Nat) : Int) : Value) from congrArg (Value.int .i64) (by omega))) ?_)
          refine WL.step rfl (Stp.res rfl rfl (Res.assign rfl rfl) ?_)
          refine WL.nil (Thn_n ?_)
          have hlt9 := listB_len (l := l) (i := i) (by omega)
          rw [← listB_take (by omega)] at howw11
          exact ⟨(i + 1, gw11, aw11, cw11), ⟨(rfl), (by rw [listB_take (by omega)]; rfl), (by first | rfl | exact intc (by omega)), trivial⟩, ⟨by dsimp only; omega, by dsimp only; omega, howw11, hS.known hG9.1⟩, by dsimp only; omega⟩
    · refine CW.exit (Thn_x (Thn_x (Blk_x (Thn_n ?_))))
      refine CW.seq ?_
      refine CW.region ?_
      refine WL.step rfl (Stp.res rfl rfl (Res.move rfl rfl) ?_)
      refine WL.step rfl (Stp.res rfl rfl (Res.assign rfl rfl) ?_)
      refine WL.step rfl (Stp.res rfl rfl (Res.assign rfl rfl) ?_)
      refine WL.nil (Thn_n ?_)
      refine CW.ret ?_
      obtain rfl : i = l.length := by omega
      rw [List.take_length] at *
      have hyes : listP l = (listB l, 0) := listP_yes (by omega) hsz
      rw [hyes]
      obtain ⟨M13, hS, hlegv14, hfrgv14, hgv14⟩ := hown.give hS
      have hG13 : Grow w0.heap.size M M13 := ⟨hlegv14, hfrgv14⟩
      exact fq_tmp2 rfl rfl rfl ⟨_, hS, hG13.1, hG13.2, _, rfl, hgv14⟩
end Go.Proofs.YtcmgimicdcchlaaGreatDoor
