/- Lemmas on the way to the statement; no condition of its own. -/
import Derived.Test.YtcmgimicdcchlaaGreatDoorQE2
import Derived.Test.YtcmgimicdcchlaaGreatDoorQT
import Derived.Test.YtcmgimicdcchlaaGreatDoorTick4
set_option linter.unusedVariables false
set_option maxRecDepth 20000
namespace Go.Proofs.YtcmgimicdcchlaaGreatDoor
open Go.Proofs.Tryz
open Go Go.E Go.RowKit Go.Extern.Stop Go.Stop Go.Extern
def BADV (s : List UInt8) : Value := .iface 151 (.agg #[Go.E.str s])
def IsT (M : PH) : Nat → Value → Prop
  | 0, v => ∃ s, v = BADV s
  | k + 1, v => IsT M k v ∨ ∃ (b c off n cap : Nat) (x : Value), v = .iface 191 (.pointer (some ⟨b, 0, none⟩)) ∧ M b = some (.cells #[.slice (some ⟨c, off, none⟩) n cap] 193 (0, 0)) ∧ 0 < n ∧ M.cell c off = some x ∧ IsT M k x
theorem IsT.mono {M M' : PH} (h : M.le M') : ∀ {k : Nat} {v : Value}, IsT M k v → IsT M' k v
  | 0, _, hv => hv
  | k + 1, _, .inl hv => .inl (IsT.mono h hv)
  | k + 1, _, .inr ⟨b, c, off, n, cap, x, h1, h2, h3, h4, h5⟩ => .inr ⟨b, c, off, n, cap, x, h1, h _ _ h2, h3, PH.cell_mono h h4, IsT.mono h h5⟩
theorem IsT.iface {M : PH} : ∀ {k : Nat} {v : Value}, IsT M k v → ∃ t u, v = .iface t u
  | 0, _, ⟨_, hv⟩ => ⟨_, _, hv⟩
  | k + 1, _, .inl hv => hv.iface
  | k + 1, _, .inr ⟨_, _, _, _, _, _, h1, _⟩ => ⟨_, _, h1⟩
def Ez (M : PH) (k : Nat) (p : Prop) (r : Value) : Prop := (p ∧ r = .nilIface) ∨ (¬ p ∧ IsT M k r)
theorem Ez.mono {M M' : PH} (h : M.le M') {k : Nat} {p : Prop} {r : Value} : Ez M k p r → Ez M' k p r
  | .inl hv => .inl hv
  | .inr ⟨h1, h2⟩ => .inr ⟨h1, h2.mono h⟩
theorem Ez.nz {M : PH} {k : Nat} {p : Prop} {r : Value} : Ez M k p r → r = .nilIface ∨ ∃ t u, r = .iface t u
  | .inl hv => .inl hv.2
  | .inr ⟨_, h2⟩ => .inr h2.iface
theorem Ez.ok {M : PH} {k : Nat} {p : Prop} {r : Value} (hp : p) : Ez M k p r → r = .nilIface
  | .inl hv => hv.2
  | .inr ⟨h1, _⟩ => absurd hp h1
theorem Ez.no {M : PH} {k : Nat} {p : Prop} {r : Value} (hp : ¬ p) : Ez M k p r → ∃ t u, r = .iface t u ∧ IsT M k (.iface t u)
  | .inl hv => absurd hv.1 hp
  | .inr ⟨_, h2⟩ => by
    obtain ⟨t, u, rfl⟩ := h2.iface
    exact ⟨t, u, rfl, h2⟩
def Sl (M : PH) (r : Value) (l : List Value) : Prop := (l = [] ∧ r = .nilIface) ∨ ∃ b s, r = .iface 191 (.pointer (some ⟨b, 0, none⟩)) ∧ M b = some (.cells #[s] 193 (0, 0)) ∧ Vs M s l ∧ l ≠ []
theorem unMethodB (v : Value) (w : World) : (Go.method (Tryz.prog.types.size + Made.depth) 151 v "Unwrap").run Tryz.prog w = .ok (213, v) w := by kernel_rfl
theorem unMethodJ (v : Value) (w : World) : (Go.method (Tryz.prog.types.size + Made.depth) 191 v "Unwrap").run Tryz.prog w = .ok (218, v) w := by kernel_rfl
theorem calUnB : Callable Tryz.prog 213 := ⟨Tryz.f213, func213, rfl, by kernel_rfl⟩
theorem calUnJ : Callable Tryz.prog 218 := ⟨Tryz.f218, func218, rfl, by kernel_rfl⟩
theorem et190 : ET Tryz.prog 190 86 .nilIface 1 16 := ⟨underlying190, by kernel_rfl⟩
theorem Ez.iff {M : PH} {k : Nat} {p q : Prop} {r : Value} (h : p ↔ q) : Ez M k p r → Ez M k q r
  | .inl hv => .inl ⟨h.1 hv.1, hv.2⟩
  | .inr ⟨h1, h2⟩ => .inr ⟨fun hq => h1 (h.2 hq), h2⟩
theorem lit2 {a b : Value} (ha : a = .nilIface ∨ ∃ t u, a = .iface t u) (hb : b = .nilIface ∨ ∃ t u, b = .iface t u) : ∀ w, (Instr.buildSlice 190 2 [(0, a), (1, b)].toArray).run Tryz.prog w = .ok (.slice (some ⟨w.heap.size, 0, none⟩) 2 2) (w.alloc (.cells #[a, b] 86 (0, 0))) := by
  rcases ha with rfl | ⟨t, u, rfl⟩ <;> rcases hb with rfl | ⟨t', u', rfl⟩ <;> (intro w; kernel_rfl)
end Go.Proofs.YtcmgimicdcchlaaGreatDoor
set_option linter.unusedVariables false
set_option maxRecDepth 20000
namespace Go.Proofs.YtcmgimicdcchlaaGreatDoor
open Go.Proofs.Tryz
open Go Go.E
theorem gnames_ok (vb vo n vc : Nat) (l : List (List UInt8)) (w0 : World) (M : PH) (hM : On M w0) (hn : l.length = n) (hn9 : n ≤ 1000) (hv : ∀ j, j < n → M.cell vb (vo + j) = some (Go.E.str (l.getD j []))) : Ok Tryz.prog 112 #[.slice (some ⟨vb, vo, none⟩) n vc] w0 M (fun M' r => M = M' ∧ Ez M 0 (∀ j, j < n → Tick.okName (l.getD j [])) r) := by
  have hS := hM.st
  refine enterB (l := [.slice (some ⟨vb, vo, none⟩) n vc]) 21 func112 rfl ntmps112 rfl ?_
  refine CW.seq ?_
  refine CW.region ?_
  refine WL.step rfl (Stp.res rfl rfl (Res.assign rfl rfl) ?_)
  refine WL.nil (Thn_n ?_)
  refine CW.seq ?_
  refine CW.seq ?_
  refine CW.region ?_
  refine WL.step rfl (Stp.res rfl rfl (Res.move rfl rfl) ?_)
  refine WL.step rfl (Stp.res rfl rfl (Res.len rfl rfl rfl rfl underlying194) ?_)
  refine WL.step rfl (Stp.res rfl rfl (Res.move rfl rfl) ?_)
  refine WL.nil (Thn_n ?_)
  refine CW.block ?_
  refine CW.loop (σ := Nat) (fun i => [(5, .slice (some ⟨vb, vo, none⟩) n vc), (6, .int .i64 (n : Int)), (7, .int .i64 (i : Int))])
    (fun i w' => i ≤ n ∧ (∀ j, j < i → Tick.okName (l.getD j [])) ∧ St w0 w' M []) (fun i => n - i) 0 ⟨rfl, rfl, rfl, trivial⟩ ⟨by omega, fun j hj => by omega, hS⟩ ?_
  rintro i w1 ⟨hi, hok, hS⟩
  by_cases hq : i < n ∧ l.getD i [] = []
  · obtain ⟨hlt, he⟩ := hq
    refine CW.seq ?_
    refine CW.region ?_
    refine WL.step rfl (Stp.res rfl rfl (Res.lss rfl rfl rfl) ?_)
    refine WL.nil (Thn_n ?_)
    refine CW.seq ?_
    refine CW.iteT rfl (by omega) ?_
    refine CW.skip (Thn_n ?_)
    refine CW.seq ?_
    refine CW.block ?_
    refine CW.seq ?_
    refine CW.region ?_
    refine WL.step rfl (Stp.res rfl rfl (Res.idxS1 (k := i) rfl rfl rfl underlying194 sz9 (Int.toNat_natCast _) (by omega)) ?_)
    refine WL.step rfl (Stp.res rfl rfl (Res.load1 (v := Go.E.str (l.getD i [])) rfl rfl underlying9 rfl (hS.cell (hv i hlt))) ?_)
    refine WL.step rfl (Stp.res rfl rfl (Res.assign rfl rfl) ?_)
    refine WL.nil (Thn_n ?_)
    refine CW.seq ?_
    refine CW.region ?_
    refine WL.step rfl (Stp.res rfl rfl (Res.move rfl rfl) ?_)
    refine WL.step rfl (Stp.res rfl rfl (Res.to (Res.eqlS (a := l.getD i []) (b := []) rfl rfl rfl) he) ?_)
    refine WL.step rfl (Stp.res rfl rfl (Res.move rfl rfl) ?_)
    refine WL.skipG 2 false rfl rfl rfl rfl rfl rfl ?_
    refine WL.skipG 2 false rfl rfl rfl rfl rfl rfl ?_
    refine WL.skipG 2 false rfl rfl rfl rfl rfl rfl ?_
    refine WL.step rfl (Stp.res rfl rfl (Res.pickT rfl rfl rfl) ?_)
    refine WL.nil (Thn_n ?_)
    refine CW.condT rfl ?_
    refine CW.seq ?_
    refine CW.region ?_
    refine WL.step rfl (Stp.res rfl rfl (Res.build (vals := [(0, Go.E.str [110, 97, 109, 101])]) (cs := #[Go.E.str [110, 97, 109, 101]]) rfl rfl (fun _ => by kernel_rfl)) ?_)
    refine WL.step rfl (Stp.res rfl rfl (Res.mkIface rfl rfl underlying151 rfl) ?_)
    refine WL.step rfl (Stp.res rfl rfl (Res.assign rfl rfl) ?_)
    refine WL.nil (Thn_n ?_)
    refine CW.ret (Blk_r (Thn_r (Thn_r (Blk_r (Thn_r ?_)))))
    refine fq_tmp rfl rfl ⟨M, hS, PH.le.refl _, Fresh.refl _ _, rfl, .inr ⟨fun h => ?_, _, rfl⟩⟩
    have h7 := (h i hlt).1
    rw [he] at h7
    simp at h7
  · refine CW.seq ?_
    refine CW.region ?_
    refine WL.step rfl (Stp.res rfl rfl (Res.lss rfl rfl rfl) ?_)
    refine WL.nil (Thn_n ?_)
    refine CW.seq ?_
    refine CW.ite rfl (fun h => ?_) (fun h => ?_)
    · have hlt : i < n := by omega
      have he' : ¬ l.getD i [] = [] := fun h => hq ⟨hlt, h⟩
      refine CW.skip (Thn_n ?_)
      refine CW.seq ?_
      refine CW.block ?_
      refine CW.seq ?_
      refine CW.region ?_
      refine WL.step rfl (Stp.res rfl rfl (Res.idxS1 (k := i) rfl rfl rfl underlying194 sz9 (Int.toNat_natCast _) (by omega)) ?_)
      refine WL.step rfl (Stp.res rfl rfl (Res.load1 (v := Go.E.str (l.getD i [])) rfl rfl underlying9 rfl (hS.cell (hv i hlt))) ?_)
      refine WL.step rfl (Stp.res rfl rfl (Res.assign rfl rfl) ?_)
      refine WL.nil (Thn_n ?_)
      refine CW.seq ?_
      refine CW.region ?_
      refine WL.step rfl (Stp.res rfl rfl (Res.move rfl rfl) ?_)
      refine WL.step rfl (Stp.res rfl rfl (Res.toF (Res.eqlS (a := l.getD i []) (b := []) rfl rfl rfl) he') ?_)
      refine WL.step rfl (Stp.res rfl rfl (Res.move rfl rfl) ?_)
      refine WL.stepG 2 false rfl rfl rfl rfl (Stp.res rfl rfl (Res.move rfl rfl) ?_)
      refine WL.stepG 2 false rfl rfl rfl rfl (Stp.res rfl rfl (Res.cast (Res.lenStr rfl rfl rfl rfl underlying9) (v' := .int .i64 ((l.getD i []).length : Int)) (by simp [ByteArray.size])) ?_)
      refine WL.stepG 2 false rfl rfl rfl rfl (Stp.res rfl rfl (Res.gtr rfl rfl rfl) ?_)
      refine WL.step rfl (Stp.res rfl rfl (Res.pickF rfl rfl rfl) ?_)
      refine WL.nil (Thn_n ?_)
      refine CW.ite rfl (fun h3 => ?_) (fun h3 => ?_)
      · refine CW.seq ?_
        refine CW.region ?_
        refine WL.step rfl (Stp.res rfl rfl (Res.build (vals := [(0, Go.E.str [110, 97, 109, 101])]) (cs := #[Go.E.str [110, 97, 109, 101]]) rfl rfl (fun _ => by kernel_rfl)) ?_)
        refine WL.step rfl (Stp.res rfl rfl (Res.mkIface rfl rfl underlying151 rfl) ?_)
        refine WL.step rfl (Stp.res rfl rfl (Res.assign rfl rfl) ?_)
        refine WL.nil (Thn_n ?_)
        refine CW.ret (Blk_r (Thn_r (Thn_r (Blk_r (Thn_r ?_)))))
        refine fq_tmp rfl rfl ⟨M, hS, PH.le.refl _, Fresh.refl _ _, rfl, .inr ⟨fun h => ?_, _, rfl⟩⟩
        have h7 := (h i hlt).2
        omega
      · refine CW.skip (Blk_n (Thn_n ?_))
        refine CW.region ?_
        refine WL.step rfl (Stp.res rfl rfl (Res.add rfl rfl rfl (by omega)) ?_)
        refine WL.step rfl (Stp.res rfl rfl (Res.move rfl rfl) ?_)
        refine WL.nil (Thn_n ?_)
        have hok2 : ∀ j, j < i + 1 → Tick.okName (l.getD j []) := fun j hj => by
          by_cases e : j = i
          · rw [e]
            exact ⟨Nat.pos_of_ne_zero (fun h => he' (List.eq_nil_of_length_eq_zero h)), by omega⟩
          · exact hok j (by omega)
        exact ⟨i + 1, ⟨rfl, rfl, rfl, trivial⟩, ⟨by omega, hok2, hS⟩, by omega⟩
    · have hge : n ≤ i := by omega
      refine CW.exit (Thn_x (Thn_x (Blk_x (Thn_n ?_))))
      refine CW.seq ?_
      refine CW.region ?_
      refine WL.step rfl (Stp.res rfl rfl (Res.assign rfl rfl) ?_)
      refine WL.nil (Thn_n ?_)
      refine CW.ret ?_
      exact fq_tmp rfl rfl ⟨M, hS, PH.le.refl _, Fresh.refl _ _, rfl, .inl ⟨fun j hj => hok j (by omega), rfl⟩⟩
theorem gtimes_ok (vb vo n vc : Nat) (l : List Int) (w0 : World) (M : PH) (hM : On M w0) (hn : l.length = n) (hn9 : n ≤ 1000) (hv : ∀ j, j < n → M.cell vb (vo + j) = some (.int .i64 (l.getD j 0))) : Ok Tryz.prog 113 #[.slice (some ⟨vb, vo, none⟩) n vc] w0 M (fun M' r => M = M' ∧ Ez M 0 (∀ j, j < n → Tick.okTime (l.getD j 0)) r) := by
  have hS := hM.st
  refine enterB (l := [.slice (some ⟨vb, vo, none⟩) n vc]) 20 func113 rfl ntmps113 rfl ?_
  refine CW.seq ?_
  refine CW.region ?_
  refine WL.step rfl (Stp.res rfl rfl (Res.assign rfl rfl) ?_)
  refine WL.nil (Thn_n ?_)
  refine CW.seq ?_
  refine CW.seq ?_
  refine CW.region ?_
  refine WL.step rfl (Stp.res rfl rfl (Res.move rfl rfl) ?_)
  refine WL.step rfl (Stp.res rfl rfl (Res.len rfl rfl rfl rfl underlying117) ?_)
  refine WL.step rfl (Stp.res rfl rfl (Res.move rfl rfl) ?_)
  refine WL.nil (Thn_n ?_)
  refine CW.block ?_
  refine CW.loop (σ := Nat) (fun i => [(5, .slice (some ⟨vb, vo, none⟩) n vc), (6, .int .i64 (n : Int)), (7, .int .i64 (i : Int))])
    (fun i w' => i ≤ n ∧ (∀ j, j < i → Tick.okTime (l.getD j 0)) ∧ St w0 w' M []) (fun i => n - i) 0 ⟨rfl, rfl, rfl, trivial⟩ ⟨by omega, fun j hj => by omega, hS⟩ ?_
  rintro i w1 ⟨hi, hok, hS⟩
  by_cases hq : i < n ∧ l.getD i 0 < 0
  · obtain ⟨hlt, he⟩ := hq
    refine CW.seq ?_
    refine CW.region ?_
    refine WL.step rfl (Stp.res rfl rfl (Res.lss rfl rfl rfl) ?_)
    refine WL.nil (Thn_n ?_)
    refine CW.seq ?_
    refine CW.iteT rfl (by omega) ?_
    refine CW.skip (Thn_n ?_)
    refine CW.seq ?_
    refine CW.block ?_
    refine CW.seq ?_
    refine CW.region ?_
    refine WL.step rfl (Stp.res rfl rfl (Res.idxS1 (k := i) rfl rfl rfl underlying117 sz3 (Int.toNat_natCast _) (by omega)) ?_)
    refine WL.step rfl (Stp.res rfl rfl (Res.load1 (v := .int .i64 (l.getD i 0)) rfl rfl underlying3 rfl (hS.cell (hv i hlt))) ?_)
    refine WL.step rfl (Stp.res rfl rfl (Res.assign rfl rfl) ?_)
    refine WL.nil (Thn_n ?_)
    refine CW.seq ?_
    refine CW.region ?_
    refine WL.step rfl (Stp.res rfl rfl (Res.move rfl rfl) ?_)
    refine WL.step rfl (Stp.res rfl rfl (Res.to (Res.lss rfl rfl rfl) he) ?_)
    refine WL.step rfl (Stp.res rfl rfl (Res.move rfl rfl) ?_)
    refine WL.skipG 2 false rfl rfl rfl rfl rfl rfl ?_
    refine WL.skipG 2 false rfl rfl rfl rfl rfl rfl ?_
    refine WL.step rfl (Stp.res rfl rfl (Res.pickT rfl rfl rfl) ?_)
    refine WL.nil (Thn_n ?_)
    refine CW.condT rfl ?_
    refine CW.seq ?_
    refine CW.region ?_
    refine WL.step rfl (Stp.res rfl rfl (Res.build (vals := [(0, Go.E.str [116, 105, 109, 101])]) (cs := #[Go.E.str [116, 105, 109, 101]]) rfl rfl (fun _ => by kernel_rfl)) ?_)
    refine WL.step rfl (Stp.res rfl rfl (Res.mkIface rfl rfl underlying151 rfl) ?_)
    refine WL.step rfl (Stp.res rfl rfl (Res.assign rfl rfl) ?_)
    refine WL.nil (Thn_n ?_)
    refine CW.ret (Blk_r (Thn_r (Thn_r (Blk_r (Thn_r ?_)))))
    refine fq_tmp rfl rfl ⟨M, hS, PH.le.refl _, Fresh.refl _ _, rfl, .inr ⟨fun h => ?_, _, rfl⟩⟩
    have h7 := (h i hlt).1
    omega
  · refine CW.seq ?_
    refine CW.region ?_
    refine WL.step rfl (Stp.res rfl rfl (Res.lss rfl rfl rfl) ?_)
    refine WL.nil (Thn_n ?_)
    refine CW.seq ?_
    refine CW.ite rfl (fun h => ?_) (fun h => ?_)
    · have hlt : i < n := by omega
      have he' : ¬ l.getD i 0 < 0 := fun h => hq ⟨hlt, h⟩
      refine CW.skip (Thn_n ?_)
      refine CW.seq ?_
      refine CW.block ?_
      refine CW.seq ?_
      refine CW.region ?_
      refine WL.step rfl (Stp.res rfl rfl (Res.idxS1 (k := i) rfl rfl rfl underlying117 sz3 (Int.toNat_natCast _) (by omega)) ?_)
      refine WL.step rfl (Stp.res rfl rfl (Res.load1 (v := .int .i64 (l.getD i 0)) rfl rfl underlying3 rfl (hS.cell (hv i hlt))) ?_)
      refine WL.step rfl (Stp.res rfl rfl (Res.assign rfl rfl) ?_)
      refine WL.nil (Thn_n ?_)
      refine CW.seq ?_
      refine CW.region ?_
      refine WL.step rfl (Stp.res rfl rfl (Res.move rfl rfl) ?_)
      refine WL.step rfl (Stp.res rfl rfl (Res.toF (Res.lss rfl rfl rfl) he') ?_)
      refine WL.step rfl (Stp.res rfl rfl (Res.move rfl rfl) ?_)
      refine WL.stepG 2 false rfl rfl rfl rfl (Stp.res rfl rfl (Res.move rfl rfl) ?_)
      refine WL.stepG 2 false rfl rfl rfl rfl (Stp.res rfl rfl (Res.gtr rfl rfl rfl) ?_)
      refine WL.step rfl (Stp.res rfl rfl (Res.pickF rfl rfl rfl) ?_)
      refine WL.nil (Thn_n ?_)
      refine CW.ite rfl (fun h3 => ?_) (fun h3 => ?_)
      · refine CW.seq ?_
        refine CW.region ?_
        refine WL.step rfl (Stp.res rfl rfl (Res.build (vals := [(0, Go.E.str [116, 105, 109, 101])]) (cs := #[Go.E.str [116, 105, 109, 101]]) rfl rfl (fun _ => by kernel_rfl)) ?_)
        refine WL.step rfl (Stp.res rfl rfl (Res.mkIface rfl rfl underlying151 rfl) ?_)
        refine WL.step rfl (Stp.res rfl rfl (Res.assign rfl rfl) ?_)
        refine WL.nil (Thn_n ?_)
        refine CW.ret (Blk_r (Thn_r (Thn_r (Blk_r (Thn_r ?_)))))
        refine fq_tmp rfl rfl ⟨M, hS, PH.le.refl _, Fresh.refl _ _, rfl, .inr ⟨fun h => ?_, _, rfl⟩⟩
        have h7 := (h i hlt).2
        omega
      · refine CW.skip (Blk_n (Thn_n ?_))
        refine CW.region ?_
        refine WL.step rfl (Stp.res rfl rfl (Res.add rfl rfl rfl (by omega)) ?_)
        refine WL.step rfl (Stp.res rfl rfl (Res.move rfl rfl) ?_)
        refine WL.nil (Thn_n ?_)
        have hok2 : ∀ j, j < i + 1 → Tick.okTime (l.getD j 0) := fun j hj => by
          by_cases e : j = i
          · rw [e]
            exact ⟨by omega, by omega⟩
          · exact hok j (by omega)
        exact ⟨i + 1, ⟨rfl, rfl, rfl, trivial⟩, ⟨by omega, hok2, hS⟩, by omega⟩
    · have hge : n ≤ i := by omega
      refine CW.exit (Thn_x (Thn_x (Blk_x (Thn_n ?_))))
      refine CW.seq ?_
      refine CW.region ?_
      refine WL.step rfl (Stp.res rfl rfl (Res.assign rfl rfl) ?_)
      refine WL.nil (Thn_n ?_)
      refine CW.ret ?_
      exact fq_tmp rfl rfl ⟨M, hS, PH.le.refl _, Fresh.refl _ _, rfl, .inl ⟨fun j hj => hok j (by omega), rfl⟩⟩
end Go.Proofs.YtcmgimicdcchlaaGreatDoor
set_option linter.unusedVariables false
set_option maxRecDepth 20000
namespace Go.Proofs.YtcmgimicdcchlaaGreatDoor
open Go.Proofs.Tryz
open Go Go.E
theorem gjoin_ok (vb vo n vc : Nat) (l : List Value) (w0 : World) (M : PH) (hM : On M w0) (hn : l.length = n) (hn9 : n ≤ 1000) (hv : ∀ j, j < n → M.cell vb (vo + j) = some (l.getD j .nilIface)) (hz : ∀ j, j < n → l.getD j .nilIface = .nilIface ∨ ∃ t u, l.getD j .nilIface = .iface t u) : Ok Tryz.prog 111 #[.slice (some ⟨vb, vo, none⟩) n vc] w0 M (fun M' r => Sl M' r (nn l)) := by
  have hS := hM.st
  refine enterB (l := [.slice (some ⟨vb, vo, none⟩) n vc]) 47 func111 rfl ntmps111 rfl ?_
  refine CW.seq ?_
  refine CW.region ?_
  refine WL.step rfl (Stp.res rfl rfl (Res.assign rfl rfl) ?_)
  refine WL.nil (Thn_n ?_)
  refine CW.seq ?_
  refine CW.region ?_
  refine WL.step rfl (Stp.res rfl rfl (Res.assign rfl rfl) ?_)
  refine WL.nil (Thn_n ?_)
  refine CW.seq ?_
  refine CW.seq ?_
  refine CW.region ?_
  refine WL.step rfl (Stp.res rfl rfl (Res.move rfl rfl) ?_)
  refine WL.step rfl (Stp.res rfl rfl (Res.len rfl rfl rfl rfl underlying190) ?_)
  refine WL.step rfl (Stp.res rfl rfl (Res.move rfl rfl) ?_)
  refine WL.nil (Thn_n ?_)
  refine CW.block ?_
  refine CW.loop (σ := Nat) (fun i => [(0, .slice (some ⟨vb, vo, none⟩) n vc), (3, .int .i64 ((nn (l.take i)).length : Int)), (9, .slice (some ⟨vb, vo, none⟩) n vc), (10, .int .i64 (n : Int)), (11, .int .i64 (i : Int))])
    (fun i w' => i ≤ n ∧ St w0 w' M []) (fun i => n - i) 0 ⟨rfl, rfl, rfl, rfl, rfl, trivial⟩ ⟨by omega, hS⟩ ?_
  rintro i w1 ⟨hi, hS⟩
  have hc3 : n ≤ i ∨ (i < n ∧ l.getD i .nilIface = .nilIface) ∨ (i < n ∧ ∃ t u, l.getD i .nilIface = .iface t u) := by
    by_cases hlt : i < n
    · rcases hz i hlt with he | he
      · exact .inr (.inl ⟨hlt, he⟩)
      · exact .inr (.inr ⟨hlt, he⟩)
    · exact .inl (by omega)
  rcases hc3 with hge | ⟨hlt, he⟩ | ⟨hlt, tt, uu, he⟩
  · obtain rfl : n = i := by omega
    have etk : l.take n = l := List.take_of_length_le (by omega)
    refine CW.seq ?_
    refine CW.region ?_
    refine WL.step rfl (Stp.res rfl rfl (Res.lss rfl rfl rfl) ?_)
    refine WL.nil (Thn_n ?_)
    refine CW.seq ?_
    refine CW.iteF rfl (by omega) ?_
    refine CW.exit (Thn_x (Thn_x (Blk_x (Thn_n ?_))))
    refine CW.seq ?_
    refine CW.seq ?_
    refine CW.region ?_
    refine WL.step rfl (Stp.res rfl rfl (Res.move rfl rfl) ?_)
    refine WL.step rfl (Stp.res rfl rfl (Res.eql rfl rfl rfl) ?_)
    refine WL.nil (Thn_n ?_)
    refine CW.ite rfl (fun h2 => ?_) (fun h2 => ?_)
    · have h3 : nn l = [] := List.eq_nil_of_length_eq_zero (by rw [etk] at h2; omega)
      refine CW.seq ?_
      refine CW.region ?_
      refine WL.step rfl (Stp.res rfl rfl (Res.assign rfl rfl) ?_)
      refine WL.nil (Thn_n ?_)
      refine CW.ret (Thn_r ?_)
      exact fq_tmp rfl rfl ⟨M, hS, PH.le.refl _, Fresh.refl _ _, .inl ⟨h3, rfl⟩⟩
    · have h2 : (nn l).length ≠ 0 := by rw [etk] at h2; omega
      refine CW.skip (Thn_n ?_)
      refine CW.seq ?_
      refine CW.region ?_
      refine WL.step rfl (Stp.res rfl rfl (Res.move rfl rfl) ?_)
      refine WL.step rfl (Stp.makeV (c := (nn (l.take n)).length) rfl rfl rfl et190 (by have := nn_len l n; omega) (by have := nn_len l n; omega) rfl rfl hS ?_)
      intro b23 w g0 hb23 hS hown
      refine WL.step rfl (Stp.res rfl rfl (Res.build (vals := [(0, .slice (some ⟨b23, 0, none⟩) 0 (nn (l.take n)).length)]) (cs := #[.slice (some ⟨b23, 0, none⟩) 0 (nn (l.take n)).length]) rfl rfl (fun _ => by kernel_rfl)) ?_)
      refine WL.step rfl (Stp.boxA rfl rfl rfl rfl hS ?_)
      intro b25 w hb25 hS hkp hnw
      refine WL.step rfl (Stp.res rfl rfl (Res.assign rfl rfl) ?_)
      refine WL.nil (Thn_n ?_)
      refine CW.seq ?_
      refine CW.seq ?_
      refine CW.region ?_
      refine WL.step rfl (Stp.res rfl rfl (Res.move rfl rfl) ?_)
      refine WL.step rfl (Stp.res rfl rfl (Res.len rfl rfl rfl rfl underlying190) ?_)
      refine WL.step rfl (Stp.res rfl rfl (Res.move rfl rfl) ?_)
      refine WL.nil (Thn_n ?_)
      refine CW.block ?_
      refine CW.loop (σ := Nat × PH × Value × Owned) (fun s => [(6, .pointer (some ⟨b25, 0, none⟩)), (26, .slice (some ⟨vb, vo, none⟩) n vc), (27, .int .i64 (n : Int)), (28, .int .i64 (s.1 : Int))])
        (fun s w' => s.1 ≤ n ∧ Grow w0.heap.size M s.2.1 ∧ St w0 w' s.2.1 (s.2.2.2 ++ [(b25, .cells #[s.2.2.1] 193 (0, 0))]) ∧ Own w0.heap.size s.2.2.2 s.2.2.1 (nn (l.take s.1)).length 1 (nn (l.take s.1)) 86) (fun s => n - s.1) (0, M, _, g0) ⟨rfl, rfl, rfl, rfl, trivial⟩ ⟨by dsimp only; omega, Grow.refl _ _, (by rw [List.append_nil] at hS; exact St.comm (A := [(b25, _)]) hS), hown⟩ ?_
      rintro ⟨i, MJ, vj, g⟩ w1 ⟨hi, hGJ, hS, hown⟩
      dsimp only at hi hGJ hS hown ⊢
      have hc3 : n ≤ i ∨ (i < n ∧ l.getD i .nilIface = .nilIface) ∨ (i < n ∧ ∃ t u, l.getD i .nilIface = .iface t u) := by
        by_cases hlt : i < n
        · rcases hz i hlt with he | he
          · exact .inr (.inl ⟨hlt, he⟩)
          · exact .inr (.inr ⟨hlt, he⟩)
        · exact .inl (by omega)
      rcases hc3 with hge | ⟨hlt, he⟩ | ⟨hlt, tt, uu, he⟩
      · refine CW.seq ?_
        refine CW.region ?_
        refine WL.step rfl (Stp.res rfl rfl (Res.lss rfl rfl rfl) ?_)
        refine WL.nil (Thn_n ?_)
        refine CW.seq ?_
        refine CW.iteF rfl (by omega) ?_
        refine CW.exit (Thn_x (Thn_x (Blk_x (Thn_n ?_))))
        refine CW.seq ?_
        refine CW.region ?_
        refine WL.step rfl (Stp.res rfl rfl (Res.move rfl rfl) ?_)
        refine WL.step rfl (Stp.res rfl rfl (Res.mkIface rfl rfl underlying191 rfl) ?_)
        refine WL.step rfl (Stp.res rfl rfl (Res.assign rfl rfl) ?_)
        refine WL.nil (Thn_n ?_)
        refine CW.ret ?_
        obtain rfl : n = i := by omega
        rw [List.take_of_length_le (by omega)] at hown
        obtain ⟨M7, hS, hG7, hvs⟩ := hown.give hS
        have hF := hS.freezeG (i := 0) rfl hb25
        have hGA := (hGJ.trans hG7).trans hF.2
        exact fq_tmp rfl rfl ⟨_, hF.1, hGA.1, hGA.2, .inr ⟨b25, vj, rfl, PH.add_self _ _ _, hvs.mono hF.2.1, fun h => by rw [h] at h2; exact h2 rfl⟩⟩
      · refine CW.seq ?_
        refine CW.region ?_
        refine WL.step rfl (Stp.res rfl rfl (Res.lss rfl rfl rfl) ?_)
        refine WL.nil (Thn_n ?_)
        refine CW.seq ?_
        refine CW.iteT rfl (by omega) ?_
        refine CW.skip (Thn_n ?_)
        refine CW.seq ?_
        refine CW.block ?_
        refine CW.seq ?_
        refine CW.region ?_
        refine WL.step rfl (Stp.res rfl rfl (Res.idxS1 (k := i) rfl rfl rfl underlying190 sz86 (Int.toNat_natCast _) (by omega)) ?_)
        refine WL.step rfl (Stp.res rfl rfl (Res.load1 (v := .nilIface) rfl rfl underlying86 rfl (by rw [← he]; exact hS.cell (PH.cell_mono hGJ.1 (hv i hlt)))) ?_)
        refine WL.step rfl (Stp.res rfl rfl (Res.assign rfl rfl) ?_)
        refine WL.nil (Thn_n ?_)
        refine CW.seq ?_
        refine CW.region ?_
        refine WL.step rfl (Stp.res rfl rfl (Res.move rfl rfl) ?_)
        refine WL.step rfl (Stp.res rfl rfl (Res.neqNN rfl rfl underlying86) ?_)
        refine WL.nil (Thn_n ?_)
        refine CW.condF rfl ?_
        refine CW.skip (Blk_n (Thn_n ?_))
        refine CW.region ?_
        refine WL.step rfl (Stp.res rfl rfl (Res.add rfl rfl rfl (by omega)) ?_)
        refine WL.step rfl (Stp.res rfl rfl (Res.move rfl rfl) ?_)
        refine WL.nil (Thn_n ?_)
        have e7 := nn_nil (by omega) he
        exact ⟨(i + 1, MJ, vj, g), ⟨rfl, rfl, rfl, rfl, trivial⟩, ⟨by dsimp only; omega, hGJ, hS, by dsimp only; rw [e7]; exact hown⟩, by dsimp only; omega⟩
      · refine CW.seq ?_
        refine CW.region ?_
        refine WL.step rfl (Stp.res rfl rfl (Res.lss rfl rfl rfl) ?_)
        refine WL.nil (Thn_n ?_)
        refine CW.seq ?_
        refine CW.iteT rfl (by omega) ?_
        refine CW.skip (Thn_n ?_)
        refine CW.seq ?_
        refine CW.block ?_
        refine CW.seq ?_
        refine CW.region ?_
        refine WL.step rfl (Stp.res rfl rfl (Res.idxS1 (k := i) rfl rfl rfl underlying190 sz86 (Int.toNat_natCast _) (by omega)) ?_)
        refine WL.step rfl (Stp.res rfl rfl (Res.load1 (v := .iface tt uu) rfl rfl underlying86 rfl (by rw [← he]; exact hS.cell (PH.cell_mono hGJ.1 (hv i hlt)))) ?_)
        refine WL.step rfl (Stp.res rfl rfl (Res.assign rfl rfl) ?_)
        refine WL.nil (Thn_n ?_)
        refine CW.seq ?_
        refine CW.region ?_
        refine WL.step rfl (Stp.res rfl rfl (Res.move rfl rfl) ?_)
        refine WL.step rfl (Stp.res rfl rfl (Res.neqIN rfl rfl underlying86) ?_)
        refine WL.nil (Thn_n ?_)
        refine CW.condT rfl ?_
        refine CW.region ?_
        refine WL.step rfl (Stp.res rfl rfl (Res.move rfl rfl) ?_)
        refine WL.step rfl (Stp.res rfl rfl (Res.move rfl rfl) ?_)
        refine WL.step rfl (Stp.res rfl rfl (Res.nilCheck rfl rfl) ?_)
        refine WL.step rfl (Stp.res rfl rfl (Res.fieldA rfl rfl underlying193 rfl (show SZ Tryz.prog _ 1 from sz190) (by decide)) ?_)
        refine WL.step rfl (Stp.res rfl rfl (Res.load1 (v := vj) rfl rfl underlying190 rfl (hS.comm.ocell (i := 0) rfl rfl)) ?_)
        refine WL.step rfl (Stp.res rfl rfl (Res.move rfl rfl) ?_)
        refine WL.step rfl (Stp.lit (vals := [(0, .iface tt uu)]) (cs := #[.iface tt uu]) (e := 86) rfl rfl (fun _ => by kernel_rfl) rfl rfl hS ?_)
        intro b40 w hb40 hS hkp hnw
        have hF := hS.freezeG (i := 0) rfl hb40
        obtain ⟨M5, hG5, hlit, hS⟩ : ∃ M5, Grow w0.heap.size MJ M5 ∧ Vs M5 (.slice (some ⟨b40, 0, none⟩) 1 1) [.iface tt uu] ∧ St w0 w M5 (g ++ [(b25, .cells #[vj] 193 (0, 0))]) := ⟨_, hF.2, Vs.of (PH.add_self _ _ _) rfl rfl (by decide), hF.1⟩
        have hnl := nn_len l i
        refine WL.step rfl (Stp.append (sz := 1) (m := 1) (k := (nn (l.take i)).length) (xs := nn (l.take i)) rfl rfl rfl rfl et190 (by decide) rfl (Src.ofVs underlying190 hS hlit (by intro x hx; simp only [List.mem_singleton] at hx; subst hx; rfl)) hS hown (by omega) (by omega) rfl rfl ?_)
        intro v2 w g2 hS hown2
        have hS := hS.comm
        obtain ⟨ja, jc, hj⟩ := Own.len hown2
        have hone : v2.oneCell' = true := by rw [hj]; rfl
        refine WL.step rfl (Stp.res rfl rfl (Res.nilCheck rfl rfl) ?_)
        refine WL.step rfl (Stp.res rfl rfl (Res.fieldA rfl rfl underlying193 rfl (show SZ Tryz.prog _ 1 from sz190) (by decide)) ?_)
        refine WL.step rfl (Stp.store1 0 (v := v2) rfl rfl rfl sz190 hone rfl hS rfl (by show 0 < 1; decide) ?_)
        intro w hS hpt
        change St w0 w M5 ([(b25, .cells #[v2] 193 (0, 0))] ++ g2) at hS
        refine WL.nil (Blk_n (Thn_n ?_))
        refine CW.region ?_
        refine WL.step rfl (Stp.res rfl rfl (Res.add rfl rfl rfl (by omega)) ?_)
        refine WL.step rfl (Stp.res rfl rfl (Res.move rfl rfl) ?_)
        refine WL.nil (Thn_n ?_)
        have e7 := nn_some (by omega) he
        exact ⟨(i + 1, M5, v2, g2), ⟨rfl, rfl, rfl, rfl, trivial⟩, ⟨by dsimp only; omega, hGJ.trans hG5, hS.comm, by dsimp only; rw [e7, List.length_append]; exact hown2⟩, by dsimp only; omega⟩
  · refine CW.seq ?_
    refine CW.region ?_
    refine WL.step rfl (Stp.res rfl rfl (Res.lss rfl rfl rfl) ?_)
    refine WL.nil (Thn_n ?_)
    refine CW.seq ?_
    refine CW.iteT rfl (by omega) ?_
    refine CW.skip (Thn_n ?_)
    refine CW.seq ?_
    refine CW.block ?_
    refine CW.seq ?_
    refine CW.region ?_
    refine WL.step rfl (Stp.res rfl rfl (Res.idxS1 (k := i) rfl rfl rfl underlying190 sz86 (Int.toNat_natCast _) (by omega)) ?_)
    refine WL.step rfl (Stp.res rfl rfl (Res.load1 (v := .nilIface) rfl rfl underlying86 rfl (by rw [← he]; exact hS.cell (hv i hlt))) ?_)
    refine WL.step rfl (Stp.res rfl rfl (Res.assign rfl rfl) ?_)
    refine WL.nil (Thn_n ?_)
    refine CW.seq ?_
    refine CW.region ?_
    refine WL.step rfl (Stp.res rfl rfl (Res.move rfl rfl) ?_)
    refine WL.step rfl (Stp.res rfl rfl (Res.neqNN rfl rfl underlying86) ?_)
    refine WL.nil (Thn_n ?_)
    refine CW.condF rfl ?_
    refine CW.skip (Blk_n (Thn_n ?_))
    refine CW.region ?_
    refine WL.step rfl (Stp.res rfl rfl (Res.add rfl rfl rfl (by omega)) ?_)
    refine WL.step rfl (Stp.res rfl rfl (Res.move rfl rfl) ?_)
    refine WL.nil (Thn_n ?_)
    exact ⟨i + 1, ⟨rfl, intc (by rw [nn_nil (by omega) he]), rfl, rfl, rfl, trivial⟩, ⟨by omega, hS⟩, by omega⟩
  · refine CW.seq ?_
    refine CW.region ?_
    refine WL.step rfl (Stp.res rfl rfl (Res.lss rfl rfl rfl) ?_)
    refine WL.nil (Thn_n ?_)
    refine CW.seq ?_
    refine CW.iteT rfl (by omega) ?_
    refine CW.skip (Thn_n ?_)
    refine CW.seq ?_
    refine CW.block ?_
    refine CW.seq ?_
    refine CW.region ?_
    refine WL.step rfl (Stp.res rfl rfl (Res.idxS1 (k := i) rfl rfl rfl underlying190 sz86 (Int.toNat_natCast _) (by omega)) ?_)
    refine WL.step rfl (Stp.res rfl rfl (Res.load1 (v := .iface tt uu) rfl rfl underlying86 rfl (by rw [← he]; exact hS.cell (hv i hlt))) ?_)
    refine WL.step rfl (Stp.res rfl rfl (Res.assign rfl rfl) ?_)
    refine WL.nil (Thn_n ?_)
    refine CW.seq ?_
    refine CW.region ?_
    refine WL.step rfl (Stp.res rfl rfl (Res.move rfl rfl) ?_)
    refine WL.step rfl (Stp.res rfl rfl (Res.neqIN rfl rfl underlying86) ?_)
    refine WL.nil (Thn_n ?_)
    refine CW.condT rfl ?_
    refine CW.region ?_
    refine WL.step rfl (Stp.res rfl rfl (Res.move rfl rfl) ?_)
    refine WL.step rfl (Stp.res rfl rfl (Res.cast (Res.add rfl rfl rfl (by have := nn_len l i; omega)) (v' := .int .i64 (((nn (l.take i)).length + 1 : Nat) : Int)) (by congr 1)) ?_)
    refine WL.step rfl (Stp.res rfl rfl (Res.assign rfl rfl) ?_)
    refine WL.nil (Blk_n (Thn_n ?_))
    refine CW.region ?_
    refine WL.step rfl (Stp.res rfl rfl (Res.add rfl rfl rfl (by omega)) ?_)
    refine WL.step rfl (Stp.res rfl rfl (Res.move rfl rfl) ?_)
    refine WL.nil (Thn_n ?_)
    exact ⟨i + 1, ⟨rfl, intc (by rw [nn_some (by omega) he, List.length_append]; rfl), rfl, rfl, rfl, trivial⟩, ⟨by omega, hS⟩, by omega⟩
end Go.Proofs.YtcmgimicdcchlaaGreatDoor
set_option linter.unusedVariables false
set_option maxRecDepth 20000
namespace Go.Proofs.YtcmgimicdcchlaaGreatDoor
open Go.Proofs.Tryz
open Go Go.E
theorem gjoin2_ok (vb k : Nat) (p q : Prop) (x y : Value) (w0 : World) (M : PH) (hM : On M w0) (h0 : M.cell vb 0 = some x) (h1 : M.cell vb 1 = some y) (hx : Ez M k p x) (hy : Ez M k q y) : Ok Tryz.prog 111 #[.slice (some ⟨vb, 0, none⟩) 2 2] w0 M (fun M' r => Ez M' (k + 1) (p ∧ q) r) := by
  refine (gjoin_ok vb 0 2 2 [x, y] w0 M hM rfl (by decide) (fun j hj => by rcases (by omega : j = 0 ∨ j = 1) with rfl | rfl <;> assumption) (fun j hj => by
    rcases (by omega : j = 0 ∨ j = 1) with rfl | rfl
    · exact hx.nz
    · exact hy.nz)).imp fun M' r hle h => ?_
  have hx := hx.mono hle
  have hy := hy.mono hle
  rcases h with ⟨he, rfl⟩ | ⟨b, s, rfl, hb, hs, hne⟩
  · rcases hx with ⟨hp, rfl⟩ | ⟨hp, hx⟩
    · rcases hy with ⟨hq, rfl⟩ | ⟨hq, hy⟩
      · exact .inl ⟨⟨hp, hq⟩, rfl⟩
      · obtain ⟨t, u, rfl⟩ := hy.iface
        simp [nn, nz] at he
    · obtain ⟨t, u, rfl⟩ := hx.iface
      simp [nn, nz] at he
  · have go : ∀ z l, nn [x, y] = z :: l → IsT M' k z → IsT M' (k + 1) (.iface 191 (.pointer (some ⟨b, 0, none⟩))) := fun z l hl hz => by
      rw [hl] at hs
      obtain ⟨c, off, cap, rfl, h2, h3, h4⟩ := hs.at (by simp)
      exact .inr ⟨b, c, off, _, cap, z, rfl, hb, by simp, h4 0 z rfl, hz⟩
    rcases hx with ⟨hp, rfl⟩ | ⟨hp, hx⟩
    · rcases hy with ⟨hq, rfl⟩ | ⟨hq, hy⟩
      · exact absurd rfl hne
      · obtain ⟨t, u, rfl⟩ := hy.iface
        exact .inr ⟨fun h => hq h.2, go _ [] rfl hy⟩
    · obtain ⟨t, u, rfl⟩ := hx.iface
      refine .inr ⟨fun h => hp h.1, ?_⟩
      rcases hy with ⟨hq, rfl⟩ | ⟨hq, hy⟩
      · exact go _ [] rfl hx
      · obtain ⟨t', u', rfl⟩ := hy.iface
        exact go _ [.iface t' u'] rfl hx
theorem badun_ok (s : List UInt8) (w0 : World) (M : PH) (hM : On M w0)  : Ok Tryz.prog 213 #[.agg #[Go.E.str s]] w0 M (fun M' r => M = M' ∧ r = .iface 27 (.int .i64 200)) := by
  have hS := hM.st
  refine enterB (l := [.agg #[Go.E.str s]]) 4 func213 rfl ntmps213 rfl ?_
  refine CW.seq ?_
  refine CW.region ?_
  refine WL.step rfl (Stp.boxA rfl rfl rfl rfl hS ?_)
  intro b1 w hb1 hS hkp hnw
  refine WL.step rfl (Stp.res rfl rfl (Res.assign rfl rfl) ?_)
  refine WL.nil (Thn_n ?_)
  refine CW.seq ?_
  refine CW.region ?_
  refine WL.step rfl (Stp.res rfl rfl (Res.mkIface rfl rfl underlying27 rfl) ?_)
  refine WL.step rfl (Stp.res rfl rfl (Res.assign rfl rfl) ?_)
  refine WL.nil (Thn_n ?_)
  refine CW.ret ?_
  exact fq_tmp rfl rfl ⟨M, hS.drop (i := 0) rfl hb1, PH.le.refl _, Fresh.refl _ _, rfl, rfl⟩
theorem joinun_ok (b : Nat) (v : Value) (w0 : World) (M : PH) (hM : On M w0) (hb : M b = some (.cells #[v] 193 (0, 0))) : Ok Tryz.prog 218 #[.pointer (some ⟨b, 0, none⟩)] w0 M (fun M' r => M = M' ∧ r = v) := by
  have hS := hM.st
  refine enterB (l := [.pointer (some ⟨b, 0, none⟩)]) 7 func218 rfl ntmps218 rfl ?_
  refine CW.seq ?_
  refine CW.region ?_
  refine WL.step rfl (Stp.res rfl rfl (Res.assign rfl rfl) ?_)
  refine WL.nil (Thn_n ?_)
  refine CW.seq ?_
  refine CW.region ?_
  refine WL.step rfl (Stp.res rfl rfl (Res.move rfl rfl) ?_)
  refine WL.step rfl (Stp.res rfl rfl (Res.nilCheck rfl rfl) ?_)
  refine WL.step rfl (Stp.res rfl rfl (Res.fieldA rfl rfl underlying193 rfl (show SZ Tryz.prog _ 1 from sz190) (by decide)) ?_)
  refine WL.step rfl (Stp.res rfl rfl (Res.load1 (v := v) rfl rfl underlying190 rfl (hS.cell (PH.cell_of hb rfl))) ?_)
  refine WL.step rfl (Stp.res rfl rfl (Res.assign rfl rfl) ?_)
  refine WL.nil (Thn_n ?_)
  refine CW.ret ?_
  exact fq_tmp rfl rfl ⟨M, hS, PH.le.refl _, Fresh.refl _ _, rfl, rfl⟩
theorem is_bad (s : List UInt8) (w0 : World) (M : PH) (hM : On M w0)  : Ok Tryz.prog 147 #[.iface 151 (.agg #[Go.E.str s]), .iface 27 (.int .i64 200), .bool true] w0 M (fun M' r => M = M' ∧ r = .bool true) := by
  have hS := hM.st
  refine enterB (l := [.iface 151 (.agg #[Go.E.str s]), .iface 27 (.int .i64 200), .bool true]) 54 func147 rfl ntmps147 rfl ?_
  refine CW.seq ?_
  refine CW.region ?_
  refine WL.step rfl (Stp.res rfl rfl (Res.assign rfl rfl) ?_)
  refine WL.nil (Thn_n ?_)
  refine CW.block ?_
  refine CW.loop (σ := Bool) (fun q => [(0, cond q (.iface 27 (.int .i64 200)) (.iface 151 (.agg #[Go.E.str s]))), (1, .iface 27 (.int .i64 200)), (2, .bool true)])
    (fun q w' => St w0 w' M []) (fun q => if q then 0 else 1) false ⟨rfl, rfl, rfl, trivial⟩ hS ?_
  intro q w1 hS
  cases q
  · refine CW.block ?_
    refine CW.seq ?_
    refine CW.seq ?_
    refine CW.region ?_
    refine WL.step rfl (Stp.res rfl rfl (Res.move rfl rfl) ?_)
    refine WL.step rfl (Stp.res rfl rfl (Res.move rfl rfl) ?_)
    refine WL.stepG 1 true rfl rfl rfl rfl (Stp.res rfl rfl (Res.move rfl rfl) ?_)
    refine WL.stepG 1 true rfl rfl rfl rfl (Stp.res rfl rfl (Res.move rfl rfl) ?_)
    refine WL.stepG 1 true rfl rfl rfl rfl (Stp.res rfl rfl (Res.eqlIT rfl rfl rfl underlying86 (by decide)) ?_)
    refine WL.step rfl (Stp.res rfl rfl (Res.pickT rfl rfl rfl) ?_)
    refine WL.nil (Thn_n ?_)
    refine CW.condF rfl ?_
    refine CW.skip (Thn_n ?_)
    refine CW.seq ?_
    refine CW.seq ?_
    refine CW.region ?_
    refine WL.step rfl (Stp.res rfl rfl (Res.move rfl rfl) ?_)
    refine WL.step rfl (Stp.res rfl rfl (Res.assertNo (z := .nilIface) rfl rfl underlying227 (by kernel_rfl) (by kernel_rfl)) ?_)
    refine WL.step rfl (Stp.res rfl rfl (Res.move rfl rfl) ?_)
    refine WL.step rfl (Stp.res rfl rfl (Res.extract (l := [_, _]) rfl rfl rfl) ?_)
    refine WL.step rfl (Stp.res rfl rfl (Res.extract (l := [_, _]) rfl rfl rfl) ?_)
    refine WL.step rfl (Stp.res rfl rfl (Res.assign rfl rfl) ?_)
    refine WL.step rfl (Stp.res rfl rfl (Res.assign rfl rfl) ?_)
    refine WL.nil (Thn_n ?_)
    refine CW.seq ?_
    refine CW.region ?_
    refine WL.step rfl (Stp.res rfl rfl (Res.move rfl rfl) ?_)
    refine WL.step rfl (Stp.res rfl rfl (Res.move rfl rfl) ?_)
    refine WL.skipG 1 true rfl rfl rfl rfl rfl rfl ?_
    refine WL.skipG 1 true rfl rfl rfl rfl rfl rfl ?_
    refine WL.skipG 1 true rfl rfl rfl rfl rfl rfl ?_
    refine WL.step rfl (Stp.res rfl rfl (Res.pickF rfl rfl rfl) ?_)
    refine WL.nil (Thn_n ?_)
    refine CW.condF rfl ?_
    refine CW.skip (Thn_n ?_)
    refine CW.seq ?_
    refine CW.region ?_
    refine WL.step rfl (Stp.res rfl rfl (Res.move rfl rfl) ?_)
    refine WL.nil (Thn_n ?_)
    refine CW.block ?_
    refine CW.seq ?_
    refine CW.region ?_
    refine WL.step rfl (Stp.res rfl rfl (Res.assertYes rfl rfl underlying218 (by kernel_rfl)) ?_)
    refine WL.step rfl (Stp.res rfl rfl (Res.extract (l := [_, _]) rfl rfl rfl) ?_)
    refine WL.step rfl (Stp.res rfl rfl (Res.extract (l := [_, _]) rfl rfl rfl) ?_)
    refine WL.nil (Thn_n ?_)
    refine CW.condT rfl ?_
    refine CW.seq ?_
    refine CW.region ?_
    refine WL.step rfl (Stp.res rfl rfl (Res.assign rfl rfl) ?_)
    refine WL.nil (Thn_n ?_)
    refine CW.seq ?_
    refine CW.region ?_
    refine WL.step rfl (Stp.res rfl rfl (Res.move rfl rfl) ?_)
    refine WL.step rfl (Stp.callM (args := []) rfl rfl rfl rfl (unMethodB _ _) calUnB rfl rfl (badun_ok s _ _ hS.on) ?_)
    rintro _ w ⟨_, M1, rfl, hSu, hle, hfr, rfl, rfl⟩
    refine ⟨_, rfl, ?_⟩
    have hS := hS.call hSu hfr
    refine WL.step rfl (Stp.res rfl rfl (Res.assign rfl rfl) ?_)
    refine WL.nil (Thn_n ?_)
    refine CW.seq ?_
    refine CW.region ?_
    refine WL.step rfl (Stp.res rfl rfl (Res.move rfl rfl) ?_)
    refine WL.step rfl (Stp.res rfl rfl (Res.eqlIN rfl rfl rfl underlying86) ?_)
    refine WL.nil (Thn_n ?_)
    refine CW.condF rfl ?_
    refine CW.skip (Blk_n (Blk_n (Thn_n ?_)))
    exact ⟨true, ⟨rfl, rfl, rfl, trivial⟩, hS, by decide⟩
  · refine CW.block ?_
    refine CW.seq ?_
    refine CW.seq ?_
    refine CW.region ?_
    refine WL.step rfl (Stp.res rfl rfl (Res.move rfl rfl) ?_)
    refine WL.step rfl (Stp.res rfl rfl (Res.move rfl rfl) ?_)
    refine WL.stepG 1 true rfl rfl rfl rfl (Stp.res rfl rfl (Res.move rfl rfl) ?_)
    refine WL.stepG 1 true rfl rfl rfl rfl (Stp.res rfl rfl (Res.move rfl rfl) ?_)
    refine WL.stepG 1 true rfl rfl rfl rfl (Stp.res rfl rfl (Res.to (Res.eqlII rfl rfl rfl underlying86 underlying27 compE) rfl) ?_)
    refine WL.step rfl (Stp.res rfl rfl (Res.pickT rfl rfl rfl) ?_)
    refine WL.nil (Thn_n ?_)
    refine CW.condT rfl ?_
    refine CW.seq ?_
    refine CW.region ?_
    refine WL.step rfl (Stp.res rfl rfl (Res.assign rfl rfl) ?_)
    refine WL.nil (Thn_n ?_)
    refine CW.ret (Thn_r (Blk_r (Thn_r (Blk_r ?_))))
    exact fq_tmp rfl rfl ⟨M, hS, PH.le.refl _, Fresh.refl _ _, rfl, rfl⟩
theorem is_join (k b c off n cap : Nat) (x : Value) (w0 : World) (M : PH) (hM : On M w0) (hb : M b = some (.cells #[.slice (some ⟨c, off, none⟩) n cap] 193 (0, 0))) (hn : 0 < n) (hc : M.cell c off = some x) (hx : IsT M k x) (ih : ∀ (v : Value) (w0 : World) (M : PH), On M w0 → IsT M k v → Ok Tryz.prog 147 #[v, .iface 27 (.int .i64 200), .bool true] w0 M (fun M' r => M = M' ∧ r = .bool true)) : Ok Tryz.prog 147 #[.iface 191 (.pointer (some ⟨b, 0, none⟩)), .iface 27 (.int .i64 200), .bool true] w0 M (fun M' r => M = M' ∧ r = .bool true) := by
  have hS := hM.st
  refine enterB (l := [.iface 191 (.pointer (some ⟨b, 0, none⟩)), .iface 27 (.int .i64 200), .bool true]) 54 func147 rfl ntmps147 rfl ?_
  refine CW.seq ?_
  refine CW.region ?_
  refine WL.step rfl (Stp.res rfl rfl (Res.assign rfl rfl) ?_)
  refine WL.nil (Thn_n ?_)
  refine CW.block ?_
  refine CW.loop (σ := Unit) (fun _ => [(0, .iface 191 (.pointer (some ⟨b, 0, none⟩))), (1, .iface 27 (.int .i64 200)), (2, .bool true)])
    (fun _ w' => St w0 w' M []) (fun _ => 0) () ⟨rfl, rfl, rfl, trivial⟩ hS ?_
  rintro _ w1 hS
  refine CW.block ?_
  refine CW.seq ?_
  refine CW.seq ?_
  refine CW.region ?_
  refine WL.step rfl (Stp.res rfl rfl (Res.move rfl rfl) ?_)
  refine WL.step rfl (Stp.res rfl rfl (Res.move rfl rfl) ?_)
  refine WL.stepG 1 true rfl rfl rfl rfl (Stp.res rfl rfl (Res.move rfl rfl) ?_)
  refine WL.stepG 1 true rfl rfl rfl rfl (Stp.res rfl rfl (Res.move rfl rfl) ?_)
  refine WL.stepG 1 true rfl rfl rfl rfl (Stp.res rfl rfl (Res.eqlIT rfl rfl rfl underlying86 (by decide)) ?_)
  refine WL.step rfl (Stp.res rfl rfl (Res.pickT rfl rfl rfl) ?_)
  refine WL.nil (Thn_n ?_)
  refine CW.condF rfl ?_
  refine CW.skip (Thn_n ?_)
  refine CW.seq ?_
  refine CW.seq ?_
  refine CW.region ?_
  refine WL.step rfl (Stp.res rfl rfl (Res.move rfl rfl) ?_)
  refine WL.step rfl (Stp.res rfl rfl (Res.assertNo (z := .nilIface) rfl rfl underlying227 (by kernel_rfl) (by kernel_rfl)) ?_)
  refine WL.step rfl (Stp.res rfl rfl (Res.move rfl rfl) ?_)
  refine WL.step rfl (Stp.res rfl rfl (Res.extract (l := [_, _]) rfl rfl rfl) ?_)
  refine WL.step rfl (Stp.res rfl rfl (Res.extract (l := [_, _]) rfl rfl rfl) ?_)
  refine WL.step rfl (Stp.res rfl rfl (Res.assign rfl rfl) ?_)
  refine WL.step rfl (Stp.res rfl rfl (Res.assign rfl rfl) ?_)
  refine WL.nil (Thn_n ?_)
  refine CW.seq ?_
  refine CW.region ?_
  refine WL.step rfl (Stp.res rfl rfl (Res.move rfl rfl) ?_)
  refine WL.step rfl (Stp.res rfl rfl (Res.move rfl rfl) ?_)
  refine WL.skipG 1 true rfl rfl rfl rfl rfl rfl ?_
  refine WL.skipG 1 true rfl rfl rfl rfl rfl rfl ?_
  refine WL.skipG 1 true rfl rfl rfl rfl rfl rfl ?_
  refine WL.step rfl (Stp.res rfl rfl (Res.pickF rfl rfl rfl) ?_)
  refine WL.nil (Thn_n ?_)
  refine CW.condF rfl ?_
  refine CW.skip (Thn_n ?_)
  refine CW.seq ?_
  refine CW.region ?_
  refine WL.step rfl (Stp.res rfl rfl (Res.move rfl rfl) ?_)
  refine WL.nil (Thn_n ?_)
  refine CW.block ?_
  refine CW.seq ?_
  refine CW.region ?_
  refine WL.step rfl (Stp.res rfl rfl (Res.assertNo (z := .nilIface) rfl rfl underlying218 (by kernel_rfl) (by kernel_rfl)) ?_)
  refine WL.step rfl (Stp.res rfl rfl (Res.extract (l := [_, _]) rfl rfl rfl) ?_)
  refine WL.step rfl (Stp.res rfl rfl (Res.extract (l := [_, _]) rfl rfl rfl) ?_)
  refine WL.nil (Thn_n ?_)
  refine CW.condF rfl ?_
  refine CW.seq ?_
  refine CW.region ?_
  refine WL.step rfl (Stp.res rfl rfl (Res.assertYes rfl rfl underlying219 (by kernel_rfl)) ?_)
  refine WL.step rfl (Stp.res rfl rfl (Res.extract (l := [_, _]) rfl rfl rfl) ?_)
  refine WL.step rfl (Stp.res rfl rfl (Res.extract (l := [_, _]) rfl rfl rfl) ?_)
  refine WL.nil (Thn_n ?_)
  refine CW.condT rfl ?_
  refine CW.seq ?_
  refine CW.region ?_
  refine WL.step rfl (Stp.res rfl rfl (Res.assign rfl rfl) ?_)
  refine WL.nil (Thn_n ?_)
  refine CW.seq ?_
  refine CW.seq ?_
  refine CW.region ?_
  refine WL.step rfl (Stp.res rfl rfl (Res.move rfl rfl) ?_)
  refine WL.step rfl (Stp.callM (args := []) rfl rfl rfl rfl (unMethodJ _ _) calUnJ rfl rfl (joinun_ok b _ _ _ hS.on hb) ?_)
  rintro _ w ⟨_, M1, rfl, hSu, hle, hfr, rfl, rfl⟩
  refine ⟨_, rfl, ?_⟩
  have hS := hS.call hSu hfr
  refine WL.step rfl (Stp.res rfl rfl (Res.len rfl rfl rfl rfl underlying190) ?_)
  refine WL.step rfl (Stp.res rfl rfl (Res.move rfl rfl) ?_)
  refine WL.nil (Thn_n ?_)
  refine CW.block ?_
  refine CW.loop (σ := Unit) (fun _ => [(1, .iface 27 (.int .i64 200)), (2, .bool true), (43, .slice (some ⟨c, off, none⟩) n cap), (44, .int .i64 (n : Int)), (45, .int .i64 0)])
    (fun _ w' => St w0 w' M []) (fun _ => 0) () ⟨rfl, rfl, rfl, rfl, rfl, trivial⟩ hS ?_
  rintro _ w2 hS
  refine CW.seq ?_
  refine CW.region ?_
  refine WL.step rfl (Stp.res rfl rfl (Res.lss rfl rfl rfl) ?_)
  refine WL.nil (Thn_n ?_)
  refine CW.seq ?_
  refine CW.iteT rfl (by omega) ?_
  refine CW.skip (Thn_n ?_)
  refine CW.seq ?_
  refine CW.block ?_
  refine CW.seq ?_
  refine CW.region ?_
  refine WL.step rfl (Stp.res rfl rfl (Res.idxS1 (k := 0) rfl rfl rfl underlying190 sz86 rfl (by omega)) ?_)
  refine WL.step rfl (Stp.res rfl rfl (Res.load1 (v := x) rfl rfl underlying86 rfl (hS.cell hc)) ?_)
  refine WL.step rfl (Stp.res rfl rfl (Res.assign rfl rfl) ?_)
  refine WL.nil (Thn_n ?_)
  refine CW.seq ?_
  refine CW.region ?_
  refine WL.step rfl (Stp.res rfl rfl (Res.move rfl rfl) ?_)
  refine WL.step rfl (Stp.res rfl rfl (Res.move rfl rfl) ?_)
  refine WL.step rfl (Stp.res rfl rfl (Res.move rfl rfl) ?_)
  refine WL.step rfl (Stp.callG (args := [_, _, _]) rfl rfl rfl cal147 rfl rfl hS (ih _ _ _ hS.on hx) ?_)
  rintro _ w _ hS _ ⟨rfl, rfl⟩
  refine WL.nil (Thn_n ?_)
  refine CW.condT rfl ?_
  refine CW.seq ?_
  refine CW.region ?_
  refine WL.step rfl (Stp.res rfl rfl (Res.assign rfl rfl) ?_)
  refine WL.nil (Thn_n ?_)
  refine CW.ret (Blk_r (Thn_r (Thn_r (Blk_r (Thn_r (Blk_r (Blk_r (Thn_r (Blk_r ?_)))))))))
  exact fq_tmp rfl rfl ⟨M, hS, PH.le.refl _, Fresh.refl _ _, rfl, rfl⟩
theorem is_t : ∀ (k : Nat) (v : Value) (w0 : World) (M : PH), On M w0 → IsT M k v → Ok Tryz.prog 147 #[v, .iface 27 (.int .i64 200), .bool true] w0 M (fun M' r => M = M' ∧ r = .bool true)
  | 0, _, w0, M, hM, ⟨s, rfl⟩ => is_bad s w0 M hM
  | k + 1, v, w0, M, hM, .inl h => is_t k v w0 M hM h
  | k + 1, _, w0, M, hM, .inr ⟨b, c, off, n, cap, x, rfl, h2, h3, h4, h5⟩ => is_join k b c off n cap x w0 M hM h2 h3 h4 h5 (fun v w0 M hM h => is_t k v w0 M hM h)
theorem gIs_ok (k : Nat) (t : TypeId) (u : Value) (w0 : World) (M : PH) (hM : On M w0) (hv : IsT M k (.iface t u)) : Ok Tryz.prog 114 #[.iface t u, .iface 27 (.int .i64 200)] w0 M (fun M' r => M = M' ∧ r = .bool true) := by
  have hS := hM.st
  refine enterB (l := [.iface t u, .iface 27 (.int .i64 200)]) 22 func114 rfl ntmps114 rfl ?_
  refine CW.seq ?_
  refine CW.region ?_
  refine WL.step rfl (Stp.res rfl rfl (Res.assign rfl rfl) ?_)
  refine WL.nil (Thn_n ?_)
  refine CW.seq ?_
  refine CW.seq ?_
  refine CW.region ?_
  refine WL.step rfl (Stp.res rfl rfl (Res.move rfl rfl) ?_)
  refine WL.step rfl (Stp.res rfl rfl (Res.eqlIN rfl rfl rfl underlying86) ?_)
  refine WL.step rfl (Stp.res rfl rfl (Res.move rfl rfl) ?_)
  refine WL.stepG 2 false rfl rfl rfl rfl (Stp.res rfl rfl (Res.move rfl rfl) ?_)
  refine WL.stepG 2 false rfl rfl rfl rfl (Stp.res rfl rfl (Res.eqlIN rfl rfl rfl underlying86) ?_)
  refine WL.step rfl (Stp.res rfl rfl (Res.pickF rfl rfl rfl) ?_)
  refine WL.nil (Thn_n ?_)
  refine CW.condF rfl ?_
  refine CW.skip (Thn_n ?_)
  refine CW.seq ?_
  refine CW.region ?_
  refine WL.step rfl (Stp.res rfl rfl (Res.move rfl rfl) ?_)
  refine WL.step rfl (Stp.externV (args := [_]) rfl rfl rfl (runTypeOf _ _) rfl rfl ?_)
  skip
  refine WL.step rfl (Stp.externM (args := []) rfl rfl rfl rfl (isMethod _ _) (runComparable _) rfl rfl ?_)
  skip
  refine WL.step rfl (Stp.res rfl rfl (Res.assign rfl rfl) ?_)
  refine WL.nil (Thn_n ?_)
  refine CW.seq ?_
  refine CW.region ?_
  refine WL.step rfl (Stp.res rfl rfl (Res.move rfl rfl) ?_)
  refine WL.step rfl (Stp.res rfl rfl (Res.move rfl rfl) ?_)
  refine WL.step rfl (Stp.res rfl rfl (Res.move rfl rfl) ?_)
  refine WL.step rfl (Stp.callG (args := [_, _, _]) rfl rfl rfl cal147 rfl rfl hS (is_t k _ _ _ hS.on hv) ?_)
  rintro _ w _ hS _ ⟨rfl, rfl⟩
  refine WL.step rfl (Stp.res rfl rfl (Res.assign rfl rfl) ?_)
  refine WL.nil (Thn_n ?_)
  refine CW.ret ?_
  exact fq_tmp rfl rfl ⟨M, hS, PH.le.refl _, Fresh.refl _ _, rfl, rfl⟩
theorem tnum_ok (k : Nat) (t : TypeId) (u : Value) (w0 : World) (M : PH) (hM : On M w0) (hv : IsT M k (.iface t u)) : Ok Tryz.prog 75 #[.iface t u] w0 M (fun M' r => M = M' ∧ r = .int .i64 200) := by
  have hS := hM.st
  refine enterB (l := [.iface t u]) 6 func75 rfl ntmps75 rfl ?_
  refine CW.seq ?_
  refine CW.region ?_
  refine WL.step rfl (Stp.res rfl rfl (Res.assign rfl rfl) ?_)
  refine WL.nil (Thn_n ?_)
  refine CW.seq ?_
  refine CW.seq ?_
  refine CW.region ?_
  refine WL.step rfl (Stp.res rfl rfl (Res.move rfl rfl) ?_)
  refine WL.step rfl (Stp.res rfl rfl (Res.mkIface rfl rfl underlying27 rfl) ?_)
  refine WL.step rfl (Stp.callG (args := [_, _]) rfl rfl rfl cal114 rfl rfl hS (gIs_ok k t u _ _ hS.on hv) ?_)
  rintro _ w _ hS _ ⟨rfl, rfl⟩
  refine WL.nil (Thn_n ?_)
  refine CW.condT rfl ?_
  refine CW.seq ?_
  refine CW.region ?_
  refine WL.step rfl (Stp.res rfl rfl (Res.assign rfl rfl) ?_)
  refine WL.nil (Thn_n ?_)
  refine CW.ret (Thn_r ?_)
  exact fq_tmp rfl rfl ⟨M, hS, PH.le.refl _, Fresh.refl _ _, rfl, rfl⟩
end Go.Proofs.YtcmgimicdcchlaaGreatDoor
set_option linter.unusedVariables false
set_option maxRecDepth 20000
namespace Go.Proofs.YtcmgimicdcchlaaGreatDoor
open Go.Proofs.Tryz
open Go Go.E
theorem gint8_ok (n : Int) (w0 : World) (M : PH) (hM : On M w0) (hn : Tick.inI n) : Ok Tryz.prog 77 #[.int .i64 n] w0 M (fun M' r => Bs M' r (Tick.be8 (Tick.bits n))) := by
  have hS := hM.st
  refine enterB (l := [.int .i64 n]) 18 func77 rfl ntmps77 rfl ?_
  refine CW.seq ?_
  refine CW.region ?_
  refine WL.step rfl (Stp.res rfl rfl (Res.assign rfl rfl) ?_)
  refine WL.nil (Thn_n ?_)
  refine CW.seq ?_
  refine CW.region ?_
  refine WL.step rfl (Stp.alloc (cs := bs (List.replicate 8 0)) rfl z154 rfl rfl rfl hS ?_)
  intro b3 w hb3 hS hkp hnw
  refine WL.nil (Thn_n ?_)
  refine CW.seq ?_
  refine CW.seq ?_
  refine CW.region ?_
  refine WL.step rfl (Stp.res rfl rfl (Res.move rfl rfl) ?_)
  refine WL.nil (Thn_n ?_)
  refine CW.block ?_
  refine CW.loop (σ := Nat) (fun i => [(0, .int .i64 n), (3, .pointer (some ⟨b3, 0, none⟩)), (5, .int .i64 (i : Int))])
    (fun i w' => i ≤ 8 ∧ St w0 w' M [(b3, .cells (bs (Aes.upTo i (fun i => UInt8.ofNat (Tick.bits n / 2 ^ (56 - 8 * i))) (List.replicate 8 0))) 154 (0, 0))]) (fun i => 8 - i) 0 ⟨rfl, rfl, rfl, trivial⟩ ⟨by omega, by rw [Aes.upTo_zero]; exact hS⟩ ?_
  rintro i w1 ⟨hi, hS⟩
  refine CW.seq ?_
  refine CW.region ?_
  refine WL.step rfl (Stp.res rfl rfl (Res.lss rfl rfl rfl) ?_)
  refine WL.nil (Thn_n ?_)
  refine CW.seq ?_
  refine CW.ite rfl (fun h => ?_) (fun h => ?_)
  · have hlt : i < 8 := by omega
    refine CW.skip (Thn_n ?_)
    refine CW.seq ?_
    refine CW.block ?_
    refine CW.seq ?_
    refine CW.region ?_
    refine WL.step rfl (Stp.res rfl rfl (Res.move rfl rfl) ?_)
    refine WL.step rfl (Stp.res rfl rfl (Res.assign rfl rfl) ?_)
    refine WL.nil (Thn_n ?_)
    refine CW.region ?_
    refine WL.step rfl (Stp.res rfl rfl (Res.move rfl rfl) ?_)
    refine WL.step rfl (Stp.res rfl rfl (Res.move rfl rfl) ?_)
    refine WL.step rfl (Stp.res rfl rfl (Res.move rfl rfl) ?_)
    refine WL.step rfl (Stp.res rfl rfl (Res.mul rfl rfl rfl (by omega)) ?_)
    refine WL.step rfl (Stp.res rfl rfl (Res.cast (Res.sub rfl rfl rfl (by omega)) (v' := .int .i64 ((56 - 8 * i : Nat) : Int)) (by congr 1; omega)) ?_)
    refine WL.step rfl (Stp.res rfl rfl (Res.shrZ (s := 56 - 8 * i) rfl rfl rfl (by show 56 - 8 * i ≤ 64; omega)) ?_)
    refine WL.step rfl (Stp.res rfl rfl (Res.cast (Res.convZ rfl rfl underlying3 underlying5) (v' := byte (UInt8.ofNat (Tick.bits n / 2 ^ (56 - 8 * i)))) (by rw [Tick.be8_bits hn hlt])) ?_)
    refine WL.step rfl (Stp.res rfl rfl (Res.idxA0 (k := i) rfl rfl rfl underlying154 sz5 (by omega) (by omega)) ?_)
    refine WL.step rfl (Stp.storeB 0 rfl rfl rfl sz5 rfl hS rfl (by simp; omega) ?_)
    intro w hS hpt
    rw [show ((Aes.upTo i (fun i => UInt8.ofNat (Tick.bits n / 2 ^ (56 - 8 * i))) (List.replicate 8 0)).set i (UInt8.ofNat (Tick.bits n / 2 ^ (56 - 8 * i)))) = Aes.upTo (i + 1) (fun i => UInt8.ofNat (Tick.bits n / 2 ^ (56 - 8 * i))) (List.replicate 8 0) from Aes.upTo_set ..] at hS
    refine WL.nil (Blk_n (Thn_n ?_))
    refine CW.region ?_
    refine WL.step rfl (Stp.res rfl rfl (Res.add rfl rfl rfl (by omega)) ?_)
    refine WL.step rfl (Stp.res rfl rfl (Res.move rfl rfl) ?_)
    refine WL.nil (Thn_n ?_)
    exact ⟨i + 1, ⟨rfl, rfl, rfl, trivial⟩, ⟨by omega, hS⟩, by omega⟩
  · obtain rfl : i = 8 := by omega
    refine CW.exit (Thn_x (Thn_x (Blk_x (Thn_n ?_))))
    refine CW.seq ?_
    refine CW.region ?_
    refine WL.step rfl (Stp.res rfl rfl (Res.sliceA rfl rfl underlying154 (by decide) sz5) ?_)
    refine WL.step rfl (Stp.res rfl rfl (Res.assign rfl rfl) ?_)
    refine WL.nil (Thn_n ?_)
    refine CW.ret ?_
    rw [Aes.upTo_all _ _ 8 (List.length_replicate ..)] at hS
    have hF := hS.freezeG (i := 0) rfl hb3
    exact fq_tmp rfl rfl ⟨_, hF.1, hF.2.1, hF.2.2, Bs.of' (PH.add_self _ _ _) (Tick.be8_length _) (by omega)⟩
end Go.Proofs.YtcmgimicdcchlaaGreatDoor
set_option linter.unusedVariables false
set_option maxRecDepth 20000
namespace Go.Proofs.YtcmgimicdcchlaaGreatDoor
open Go.Proofs.Tryz
open Go Go.E
theorem gright_ok (c : List UInt8) (t z : Int) (w0 : World) (M : PH) (hM : On M w0)  : Ok Tryz.prog 87 #[.agg #[Go.E.str c, .int .i64 t, .int .i64 z]] w0 M (fun M' r => Ez M' 1 (Tick.okAuth c t) r) := by
  have hS := hM.st
  refine enterB (l := [.agg #[Go.E.str c, .int .i64 t, .int .i64 z]]) 13 func87 rfl ntmps87 rfl ?_
  refine CW.seq ?_
  refine CW.region ?_
  refine WL.step rfl (Stp.boxA rfl rfl rfl rfl hS ?_)
  intro b1 w hb1 hS hkp hnw
  refine WL.step rfl (Stp.res rfl rfl (Res.assign rfl rfl) ?_)
  refine WL.nil (Thn_n ?_)
  refine CW.seq ?_
  have hF := hS.freezeG (i := 0) rfl hb1
  obtain ⟨M1, hG1, hbox, hS⟩ : ∃ M1, Grow w0.heap.size M M1 ∧ M1 b1 = some (.cells #[Go.E.str c, .int .i64 t, .int .i64 z] 67 (0, 0)) ∧ St w0 w M1 [] := ⟨_, hF.2, PH.add_self _ _ _, hF.1⟩
  obtain ⟨MC, hMC, hGC⟩ : ∃ MC, MC = M1 ∧ Grow w0.heap.size M1 MC := ⟨M1, rfl, Grow.refl _ _⟩
  rw [← hMC] at hS
  clear hMC
  have hS := hS.drew
  refine CW.post (fun L' w' => ∃ r M5, Sub [(2, r)] L' ∧ Grow w0.heap.size M1 M5 ∧ St w0 w' M5 [] ∧ Ez M5 1 (Tick.okAuth c t) r) ?_ ?_
  · have hK0 := (hS.known hGC.1).on
    refine CW.held (fun w => On M1 w) mixed ?_
    refine AL.take 0 rfl (by kernel_rfl) (by kernel_rfl) (by kernel_rfl) rfl rfl rfl hK0 (fun w hK => Res.fieldA rfl rfl underlying67 rfl (show SZ Tryz.prog _ 1 from sz9) (by decide)) ?_
    refine AL.take 1 rfl (by kernel_rfl) (by kernel_rfl) (by kernel_rfl) rfl rfl rfl hK0 (fun w hK => Res.load1 (v := Go.E.str c) rfl rfl underlying9 rfl (w := w) (hK.st.cell (PH.cell_of hbox rfl))) ?_
    refine AL.take 4 rfl (by kernel_rfl) (by kernel_rfl) (by kernel_rfl) rfl rfl rfl hK0 (fun w hK => Res.fieldA rfl rfl underlying67 rfl (show SZ Tryz.prog _ 1 from sz3) (by decide)) ?_
    refine AL.take 5 rfl (by kernel_rfl) (by kernel_rfl) (by kernel_rfl) rfl rfl rfl hK0 (fun w hK => Res.load1 (v := .int .i64 t) rfl rfl underlying3 rfl (w := w) (hK.st.cell (PH.cell_of hbox rfl))) ?_
    refine AL.two 2 6 rfl rfl (by kernel_rfl) rfl rfl ?_ ?_
    · refine Stp.lit (vals := [(0, Go.E.str c)]) (cs := #[Go.E.str c]) (e := 9) rfl rfl (fun _ => by kernel_rfl) rfl rfl hS ?_
      intro b5 w hb5 hS hkp hnw
      have hF := hS.freezeG (i := 0) rfl hb5
      obtain ⟨MC, hG9, h5, hS⟩ : ∃ M9, Grow w0.heap.size MC M9 ∧ M9 b5 = some (.cells #[Go.E.str c] 9 (0, 0)) ∧ St w0 w M9 [] := ⟨_, hF.2, PH.add_self _ _ _, hF.1⟩
      have hGC := hGC.trans hG9
      try (have h9 := hG9.1 _ _ h9)
      try (have hEt := hEt.mono hG9.1)
      have hK0 : On M1 w := (hS.known hGC.1).on
      refine ⟨hK0, ?_⟩
      refine AL.two 3 6 rfl rfl (by kernel_rfl) rfl rfl ?_ ?_
      · refine Stp.callG (args := [_]) rfl rfl rfl cal112 rfl rfl hS (gnames_ok b5 0 1 1 [c] _ _ hS.on rfl (by decide) (fun j hj => by rcases (by omega : j = 0) with rfl; exact PH.cell_of h5 rfl)) ?_
        rintro nv w _ hS _ ⟨rfl, hEn⟩
        have hK0 : On M1 w := (hS.known hGC.1).on
        refine ⟨hK0, ?_⟩
        refine AL.one 6 rfl (by kernel_rfl) rfl (Stp.lit (vals := [(0, .int .i64 t)]) (cs := #[.int .i64 t]) (e := 3) rfl rfl (fun _ => by kernel_rfl) rfl rfl hS ?_)
        intro b9 w hb9 hS hkp hnw
        have hF := hS.freezeG (i := 0) rfl hb9
        obtain ⟨MC, hG9, h9, hS⟩ : ∃ M9, Grow w0.heap.size MC M9 ∧ M9 b9 = some (.cells #[.int .i64 t] 3 (0, 0)) ∧ St w0 w M9 [] := ⟨_, hF.2, PH.add_self _ _ _, hF.1⟩
        have hGC := hGC.trans hG9
        try (have h5 := hG9.1 _ _ h5)
        try (have hEn := hEn.mono hG9.1)
        have hK0 : On M1 w := (hS.known hGC.1).on
        refine ⟨hK0, ?_⟩
        refine AL.one 7 rfl (by kernel_rfl) rfl (Stp.callG (args := [_]) rfl rfl rfl cal113 rfl rfl hS (gtimes_ok b9 0 1 1 [t] _ _ hS.on rfl (by decide) (fun j hj => by rcases (by omega : j = 0) with rfl; exact PH.cell_of h9 rfl)) ?_)
        rintro tv w _ hS _ ⟨rfl, hEt⟩
        have hK0 : On M1 w := (hS.known hGC.1).on
        refine ⟨hK0, ?_⟩
        refine AL.one 8 rfl (by kernel_rfl) rfl (Stp.lit (vals := [(0, nv), (1, tv)]) (cs := #[nv, tv]) (e := 86) rfl rfl (lit2 hEn.nz hEt.nz) rfl rfl hS ?_)
        intro b11 w hb11 hS hkp hnw
        have hF := hS.freezeG (i := 0) rfl hb11
        obtain ⟨MC, hG9, h11, hS⟩ : ∃ M9, Grow w0.heap.size MC M9 ∧ M9 b11 = some (.cells #[nv, tv] 86 (0, 0)) ∧ St w0 w M9 [] := ⟨_, hF.2, PH.add_self _ _ _, hF.1⟩
        have hGC := hGC.trans hG9
        try (have hEn := hEn.mono hG9.1)
        try (have hEt := hEt.mono hG9.1)
        have hK0 : On M1 w := (hS.known hGC.1).on
        refine ⟨hK0, ?_⟩
        refine AL.one 9 rfl (by kernel_rfl) rfl (Stp.callG (args := [_]) rfl rfl rfl cal111 rfl rfl hS (gjoin2_ok b11 0 _ _ nv tv _ _ hS.on (PH.cell_of h11 rfl) (PH.cell_of h11 rfl) hEn hEt) ?_)
        rintro jv w MX hS hG9 hEj
        obtain ⟨MC, hMC⟩ : ∃ MC, MC = MX := ⟨_, rfl⟩
        subst hMC
        have hGC := hGC.trans hG9
        have hK0 : On M1 w := (hS.known hGC.1).on
        refine ⟨hK0, ?_⟩
        refine AL.take 10 rfl (by kernel_rfl) (by kernel_rfl) (by kernel_rfl) rfl rfl rfl hK0 (fun w hK => Res.assign rfl rfl) ?_
        refine AL.done (by kernel_rfl) (Thn_n ?_)
        exact ⟨jv, _, ⟨rfl, trivial⟩, hGC, hS, hEj.iff (Tick.auth_iff c t)⟩
      · refine Stp.lit (vals := [(0, .int .i64 t)]) (cs := #[.int .i64 t]) (e := 3) rfl rfl (fun _ => by kernel_rfl) rfl rfl hS ?_
        intro b9 w hb9 hS hkp hnw
        have hF := hS.freezeG (i := 0) rfl hb9
        obtain ⟨MC, hG9, h9, hS⟩ : ∃ M9, Grow w0.heap.size MC M9 ∧ M9 b9 = some (.cells #[.int .i64 t] 3 (0, 0)) ∧ St w0 w M9 [] := ⟨_, hF.2, PH.add_self _ _ _, hF.1⟩
        have hGC := hGC.trans hG9
        try (have h5 := hG9.1 _ _ h5)
        try (have hEn := hEn.mono hG9.1)
        have hK0 : On M1 w := (hS.known hGC.1).on
        refine ⟨hK0, ?_⟩
        refine AL.one 3 rfl (by kernel_rfl) rfl (Stp.callG (args := [_]) rfl rfl rfl cal112 rfl rfl hS (gnames_ok b5 0 1 1 [c] _ _ hS.on rfl (by decide) (fun j hj => by rcases (by omega : j = 0) with rfl; exact PH.cell_of h5 rfl)) ?_)
        rintro nv w _ hS _ ⟨rfl, hEn⟩
        have hK0 : On M1 w := (hS.known hGC.1).on
        refine ⟨hK0, ?_⟩
        refine AL.one 7 rfl (by kernel_rfl) rfl (Stp.callG (args := [_]) rfl rfl rfl cal113 rfl rfl hS (gtimes_ok b9 0 1 1 [t] _ _ hS.on rfl (by decide) (fun j hj => by rcases (by omega : j = 0) with rfl; exact PH.cell_of h9 rfl)) ?_)
        rintro tv w _ hS _ ⟨rfl, hEt⟩
        have hK0 : On M1 w := (hS.known hGC.1).on
        refine ⟨hK0, ?_⟩
        refine AL.one 8 rfl (by kernel_rfl) rfl (Stp.lit (vals := [(0, nv), (1, tv)]) (cs := #[nv, tv]) (e := 86) rfl rfl (lit2 hEn.nz hEt.nz) rfl rfl hS ?_)
        intro b11 w hb11 hS hkp hnw
        have hF := hS.freezeG (i := 0) rfl hb11
        obtain ⟨MC, hG9, h11, hS⟩ : ∃ M9, Grow w0.heap.size MC M9 ∧ M9 b11 = some (.cells #[nv, tv] 86 (0, 0)) ∧ St w0 w M9 [] := ⟨_, hF.2, PH.add_self _ _ _, hF.1⟩
        have hGC := hGC.trans hG9
        try (have hEn := hEn.mono hG9.1)
        try (have hEt := hEt.mono hG9.1)
        have hK0 : On M1 w := (hS.known hGC.1).on
        refine ⟨hK0, ?_⟩
        refine AL.one 9 rfl (by kernel_rfl) rfl (Stp.callG (args := [_]) rfl rfl rfl cal111 rfl rfl hS (gjoin2_ok b11 0 _ _ nv tv _ _ hS.on (PH.cell_of h11 rfl) (PH.cell_of h11 rfl) hEn hEt) ?_)
        rintro jv w MX hS hG9 hEj
        obtain ⟨MC, hMC⟩ : ∃ MC, MC = MX := ⟨_, rfl⟩
        subst hMC
        have hGC := hGC.trans hG9
        have hK0 : On M1 w := (hS.known hGC.1).on
        refine ⟨hK0, ?_⟩
        refine AL.take 10 rfl (by kernel_rfl) (by kernel_rfl) (by kernel_rfl) rfl rfl rfl hK0 (fun w hK => Res.assign rfl rfl) ?_
        refine AL.done (by kernel_rfl) (Thn_n ?_)
        exact ⟨jv, _, ⟨rfl, trivial⟩, hGC, hS, hEj.iff (Tick.auth_iff c t)⟩
    · refine Stp.lit (vals := [(0, .int .i64 t)]) (cs := #[.int .i64 t]) (e := 3) rfl rfl (fun _ => by kernel_rfl) rfl rfl hS ?_
      intro b9 w hb9 hS hkp hnw
      have hF := hS.freezeG (i := 0) rfl hb9
      obtain ⟨MC, hG9, h9, hS⟩ : ∃ M9, Grow w0.heap.size MC M9 ∧ M9 b9 = some (.cells #[.int .i64 t] 3 (0, 0)) ∧ St w0 w M9 [] := ⟨_, hF.2, PH.add_self _ _ _, hF.1⟩
      have hGC := hGC.trans hG9
      try (have h5 := hG9.1 _ _ h5)
      try (have hEn := hEn.mono hG9.1)
      have hK0 : On M1 w := (hS.known hGC.1).on
      refine ⟨hK0, ?_⟩
      refine AL.one 2 rfl (by kernel_rfl) rfl (Stp.lit (vals := [(0, Go.E.str c)]) (cs := #[Go.E.str c]) (e := 9) rfl rfl (fun _ => by kernel_rfl) rfl rfl hS ?_)
      intro b5 w hb5 hS hkp hnw
      have hF := hS.freezeG (i := 0) rfl hb5
      obtain ⟨MC, hG9, h5, hS⟩ : ∃ M9, Grow w0.heap.size MC M9 ∧ M9 b5 = some (.cells #[Go.E.str c] 9 (0, 0)) ∧ St w0 w M9 [] := ⟨_, hF.2, PH.add_self _ _ _, hF.1⟩
      have hGC := hGC.trans hG9
      try (have h9 := hG9.1 _ _ h9)
      try (have hEt := hEt.mono hG9.1)
      have hK0 : On M1 w := (hS.known hGC.1).on
      refine ⟨hK0, ?_⟩
      refine AL.one 3 rfl (by kernel_rfl) rfl (Stp.callG (args := [_]) rfl rfl rfl cal112 rfl rfl hS (gnames_ok b5 0 1 1 [c] _ _ hS.on rfl (by decide) (fun j hj => by rcases (by omega : j = 0) with rfl; exact PH.cell_of h5 rfl)) ?_)
      rintro nv w _ hS _ ⟨rfl, hEn⟩
      have hK0 : On M1 w := (hS.known hGC.1).on
      refine ⟨hK0, ?_⟩
      refine AL.one 7 rfl (by kernel_rfl) rfl (Stp.callG (args := [_]) rfl rfl rfl cal113 rfl rfl hS (gtimes_ok b9 0 1 1 [t] _ _ hS.on rfl (by decide) (fun j hj => by rcases (by omega : j = 0) with rfl; exact PH.cell_of h9 rfl)) ?_)
      rintro tv w _ hS _ ⟨rfl, hEt⟩
      have hK0 : On M1 w := (hS.known hGC.1).on
      refine ⟨hK0, ?_⟩
      refine AL.one 8 rfl (by kernel_rfl) rfl (Stp.lit (vals := [(0, nv), (1, tv)]) (cs := #[nv, tv]) (e := 86) rfl rfl (lit2 hEn.nz hEt.nz) rfl rfl hS ?_)
      intro b11 w hb11 hS hkp hnw
      have hF := hS.freezeG (i := 0) rfl hb11
      obtain ⟨MC, hG9, h11, hS⟩ : ∃ M9, Grow w0.heap.size MC M9 ∧ M9 b11 = some (.cells #[nv, tv] 86 (0, 0)) ∧ St w0 w M9 [] := ⟨_, hF.2, PH.add_self _ _ _, hF.1⟩
      have hGC := hGC.trans hG9
      try (have hEn := hEn.mono hG9.1)
      try (have hEt := hEt.mono hG9.1)
      have hK0 : On M1 w := (hS.known hGC.1).on
      refine ⟨hK0, ?_⟩
      refine AL.one 9 rfl (by kernel_rfl) rfl (Stp.callG (args := [_]) rfl rfl rfl cal111 rfl rfl hS (gjoin2_ok b11 0 _ _ nv tv _ _ hS.on (PH.cell_of h11 rfl) (PH.cell_of h11 rfl) hEn hEt) ?_)
      rintro jv w MX hS hG9 hEj
      obtain ⟨MC, hMC⟩ : ∃ MC, MC = MX := ⟨_, rfl⟩
      subst hMC
      have hGC := hGC.trans hG9
      have hK0 : On M1 w := (hS.known hGC.1).on
      refine ⟨hK0, ?_⟩
      refine AL.take 10 rfl (by kernel_rfl) (by kernel_rfl) (by kernel_rfl) rfl rfl rfl hK0 (fun w hK => Res.assign rfl rfl) ?_
      refine AL.done (by kernel_rfl) (Thn_n ?_)
      exact ⟨jv, _, ⟨rfl, trivial⟩, hGC, hS, hEj.iff (Tick.auth_iff c t)⟩
  · rintro L2 w2 ⟨rv, M5, hsub, hG5, hS, hEz⟩
    refine (Thn_n (CW.sub hsub ?_))
    refine CW.ret ?_
    have hGA := hG1.trans hG5
    exact fq_tmp rfl rfl ⟨M5, hS, hGA.1, hGA.2, hEz⟩
end Go.Proofs.YtcmgimicdcchlaaGreatDoor
set_option linter.unusedVariables false
set_option maxRecDepth 20000
namespace Go.Proofs.YtcmgimicdcchlaaGreatDoor
open Go.Proofs.Tryz
open Go Go.E
theorem gseal_no (kv cv : Value) (key conf c : List UInt8) (t z : Int) (w0 : World) (M : PH) (hM : On M w0) (hno : ¬ Tick.okAuth c t) : Ok Tryz.prog 44 #[kv, cv, .agg #[Go.E.str c, .int .i64 t, .int .i64 z]] w0 M (fun M' r => r = .tuple #[.slice none 0 0, .int .i64 200]) := by
  have hS := hM.st
  refine enterB (l := [kv, cv, .agg #[Go.E.str c, .int .i64 t, .int .i64 z]]) 31 func44 rfl ntmps44 rfl ?_
  refine CW.seq ?_
  refine CW.region ?_
  refine WL.step rfl (Stp.boxA rfl rfl rfl rfl hS ?_)
  intro b5 w hb5 hS hkp hnw
  refine WL.step rfl (Stp.res rfl rfl (Res.assign rfl rfl) ?_)
  refine WL.step rfl (Stp.res rfl rfl (Res.assign rfl rfl) ?_)
  refine WL.nil (Thn_n ?_)
  refine CW.seq ?_
  refine CW.seq ?_
  have hF := hS.freezeG (i := 0) rfl hb5
  obtain ⟨M1, hG1, hbox, hS⟩ : ∃ M1, Grow w0.heap.size M M1 ∧ M1 b5 = some (.cells #[Go.E.str c, .int .i64 t, .int .i64 z] 67 (0, 0)) ∧ St w0 w M1 [] := ⟨_, hF.2, PH.add_self _ _ _, hF.1⟩
  refine CW.region ?_
  refine WL.step rfl (Stp.res rfl rfl (Res.loadAll (cs := #[Go.E.str c, .int .i64 t, .int .i64 z]) rfl rfl underlying67 rfl (sz67) (hS.on _ _ hbox)) ?_)
  refine WL.step rfl (Stp.callG (args := [_]) rfl rfl rfl cal87 rfl rfl hS (gright_ok c t z _ _ hS.on) ?_)
  rintro rv w MY hS hGY hEr
  obtain ⟨M1, hG1, hbox, hS, hEr⟩ : ∃ M1', Grow w0.heap.size M M1' ∧ M1' b5 = some (.cells #[Go.E.str c, .int .i64 t, .int .i64 z] 67 (0, 0)) ∧ St w0 w M1' [] ∧ Ez M1' 1 (Tick.okAuth c t) rv := ⟨MY, hG1.trans hGY, hGY.1 _ _ hbox, hS, hEr⟩
  obtain ⟨et, eu, rfl, hIT⟩ := hEr.no hno
  refine WL.step rfl (Stp.res rfl rfl (Res.assign rfl rfl) ?_)
  refine WL.nil (Thn_n ?_)
  refine CW.seq ?_
  refine CW.region ?_
  refine WL.step rfl (Stp.res rfl rfl (Res.move rfl rfl) ?_)
  refine WL.step rfl (Stp.res rfl rfl (Res.neqIN rfl rfl underlying86) ?_)
  refine WL.nil (Thn_n ?_)
  refine CW.condT rfl ?_
  refine CW.seq ?_
  refine CW.region ?_
  refine WL.step rfl (Stp.res rfl rfl (Res.move rfl rfl) ?_)
  refine WL.step rfl (Stp.callG (args := [_]) rfl rfl rfl cal75 rfl rfl hS (tnum_ok 1 et eu _ _ hS.on hIT) ?_)
  rintro _ w _ hS _ ⟨rfl, rfl⟩
  refine WL.step rfl (Stp.res rfl rfl (Res.assign rfl rfl) ?_)
  refine WL.step rfl (Stp.res rfl rfl (Res.assign rfl rfl) ?_)
  refine WL.nil (Thn_n ?_)
  refine CW.ret (Thn_r ?_)
  exact fq_tmp2 rfl rfl rfl ⟨M1, hS, hG1.1, hG1.2, rfl⟩
theorem gseal_yes (kv cv : Value) (key conf c : List UInt8) (t z : Int) (w0 : World) (M : PH) (hM : On M w0) (hgl : GL M) (hkey : Bs M kv key) (hconf : Bs M cv conf) (ht : Tick.inI t) (hz : Tick.inI z) (hok : Tick.okAuth c t) : Ok Tryz.prog 44 #[kv, cv, .agg #[Go.E.str c, .int .i64 t, .int .i64 z]] w0 M (fun M' r => ∃ v, r = .tuple #[v, .int .i64 (Seal.sealR key 11 conf (Tick.enc 0 (Tick.authL c t z))).2] ∧ Bs M' v (Seal.sealR key 11 conf (Tick.enc 0 (Tick.authL c t z))).1) := by
  have hS := hM.st
  refine enterB (l := [kv, cv, .agg #[Go.E.str c, .int .i64 t, .int .i64 z]]) 31 func44 rfl ntmps44 rfl ?_
  refine CW.seq ?_
  refine CW.region ?_
  refine WL.step rfl (Stp.boxA rfl rfl rfl rfl hS ?_)
  intro b5 w hb5 hS hkp hnw
  refine WL.step rfl (Stp.res rfl rfl (Res.assign rfl rfl) ?_)
  refine WL.step rfl (Stp.res rfl rfl (Res.assign rfl rfl) ?_)
  refine WL.nil (Thn_n ?_)
  refine CW.seq ?_
  refine CW.seq ?_
  have hF := hS.freezeG (i := 0) rfl hb5
  obtain ⟨M1, hG1, hbox, hS⟩ : ∃ M1, Grow w0.heap.size M M1 ∧ M1 b5 = some (.cells #[Go.E.str c, .int .i64 t, .int .i64 z] 67 (0, 0)) ∧ St w0 w M1 [] := ⟨_, hF.2, PH.add_self _ _ _, hF.1⟩
  refine CW.region ?_
  refine WL.step rfl (Stp.res rfl rfl (Res.loadAll (cs := #[Go.E.str c, .int .i64 t, .int .i64 z]) rfl rfl underlying67 rfl (sz67) (hS.on _ _ hbox)) ?_)
  refine WL.step rfl (Stp.callG (args := [_]) rfl rfl rfl cal87 rfl rfl hS (gright_ok c t z _ _ hS.on) ?_)
  rintro rv w MY hS hGY hEr
  obtain ⟨M1, hG1, hbox, hS, hEr⟩ : ∃ M1', Grow w0.heap.size M M1' ∧ M1' b5 = some (.cells #[Go.E.str c, .int .i64 t, .int .i64 z] 67 (0, 0)) ∧ St w0 w M1' [] ∧ Ez M1' 1 (Tick.okAuth c t) rv := ⟨MY, hG1.trans hGY, hGY.1 _ _ hbox, hS, hEr⟩
  obtain rfl := hEr.ok hok
  refine WL.step rfl (Stp.res rfl rfl (Res.assign rfl rfl) ?_)
  refine WL.nil (Thn_n ?_)
  refine CW.seq ?_
  refine CW.region ?_
  refine WL.step rfl (Stp.res rfl rfl (Res.move rfl rfl) ?_)
  refine WL.step rfl (Stp.res rfl rfl (Res.neqNN rfl rfl underlying86) ?_)
  refine WL.nil (Thn_n ?_)
  refine CW.condF rfl ?_
  refine CW.skip (Thn_n ?_)
  refine CW.seq ?_
  obtain ⟨hc, hct⟩ := hok
  have hcl := hc.2
  obtain ⟨MC, hMC, hGC⟩ : ∃ MC, MC = M1 ∧ Grow w0.heap.size M1 MC := ⟨M1, rfl, Grow.refl _ _⟩
  rw [← hMC] at hS
  clear hMC
  have hS := hS.drew
  refine CW.post (fun L' w' => ∃ v M5, Sub [(6, v), (7, .int .i64 (Seal.sealR key 11 conf (Tick.enc 0 (Tick.authL c t z))).2)] L' ∧ Grow w0.heap.size M1 M5 ∧ St w0 w' M5 [] ∧ Bs M5 v (Seal.sealR key 11 conf (Tick.enc 0 (Tick.authL c t z))).1) ?_ ?_
  · have hK0 := (hS.known hGC.1).on
    refine CW.held (fun w => On M1 w) mixed ?_
    refine AL.take 0 rfl (by kernel_rfl) (by kernel_rfl) (by kernel_rfl) rfl rfl rfl hK0 (fun w hK => Res.move rfl rfl) ?_
    refine AL.take 1 rfl (by kernel_rfl) (by kernel_rfl) (by kernel_rfl) rfl rfl rfl hK0 (fun w hK => Res.move rfl rfl) ?_
    refine AL.take 2 rfl (by kernel_rfl) (by kernel_rfl) (by kernel_rfl) rfl rfl rfl hK0 (fun w hK => Res.fieldA rfl rfl underlying67 rfl (show SZ Tryz.prog _ 1 from sz9) (by decide)) ?_
    refine AL.take 3 rfl (by kernel_rfl) (by kernel_rfl) (by kernel_rfl) rfl rfl rfl hK0 (fun w hK => Res.load1 (v := Go.E.str c) rfl rfl underlying9 rfl (w := w) (hK.st.cell (PH.cell_of hbox rfl))) ?_
    refine AL.take 5 rfl (by kernel_rfl) (by kernel_rfl) (by kernel_rfl) rfl rfl rfl hK0 (fun w hK => Res.fieldA rfl rfl underlying67 rfl (show SZ Tryz.prog _ 1 from sz3) (by decide)) ?_
    refine AL.take 6 rfl (by kernel_rfl) (by kernel_rfl) (by kernel_rfl) rfl rfl rfl hK0 (fun w hK => Res.load1 (v := .int .i64 t) rfl rfl underlying3 rfl (w := w) (hK.st.cell (PH.cell_of hbox rfl))) ?_
    refine AL.take 8 rfl (by kernel_rfl) (by kernel_rfl) (by kernel_rfl) rfl rfl rfl hK0 (fun w hK => Res.fieldA rfl rfl underlying67 rfl (show SZ Tryz.prog _ 1 from sz3) (by decide)) ?_
    refine AL.take 9 rfl (by kernel_rfl) (by kernel_rfl) (by kernel_rfl) rfl rfl rfl hK0 (fun w hK => Res.load1 (v := .int .i64 z) rfl rfl underlying3 rfl (w := w) (hK.st.cell (PH.cell_of hbox rfl))) ?_
    refine AL.two 4 7 rfl rfl (by kernel_rfl) rfl rfl ?_ ?_
    · refine Stp.s2b (l := c) rfl rfl underlying9 underlying30 underlying5 (by omega) hS rfl rfl ?_
      intro w yqa MX hS hG9 qa
      obtain ⟨qaa, qac, rfl, -, -, -, -⟩ := id qa
      obtain ⟨MC, hMC⟩ : ∃ MC, MC = MX := ⟨_, rfl⟩
      subst hMC
      have hGC := hGC.trans hG9
      try (have qc := qc.mono hG9.1)
      try (have qd := qd.mono hG9.1)
      have hK0 : On M1 w := (hS.known hGC.1).on
      refine ⟨hK0, ?_⟩
      refine AL.one 7 rfl (by kernel_rfl) rfl (Stp.callG (args := [_]) rfl rfl rfl cal77 rfl rfl hS (gint8_ok (t) _ _ hS.on ht) ?_)
      rintro yqc w MX hS hG9 qc
      obtain ⟨qca, qcc, rfl, -, -, -, -⟩ := id qc
      obtain ⟨MC, hMC⟩ : ∃ MC, MC = MX := ⟨_, rfl⟩
      subst hMC
      have hGC := hGC.trans hG9
      try (have qa := qa.mono hG9.1)
      try (have qd := qd.mono hG9.1)
      have hK0 : On M1 w := (hS.known hGC.1).on
      refine ⟨hK0, ?_⟩
      refine AL.one 10 rfl (by kernel_rfl) rfl (Stp.callG (args := [_]) rfl rfl rfl cal77 rfl rfl hS (gint8_ok (z) _ _ hS.on hz) ?_)
      rintro yqd w MX hS hG9 qd
      obtain ⟨qda, qdc, rfl, -, -, -, -⟩ := id qd
      obtain ⟨MC, hMC⟩ : ∃ MC, MC = MX := ⟨_, rfl⟩
      subst hMC
      have hGC := hGC.trans hG9
      try (have qa := qa.mono hG9.1)
      try (have qc := qc.mono hG9.1)
      have hK0 : On M1 w := (hS.known hGC.1).on
      refine ⟨hK0, ?_⟩
      refine AL.one 11 rfl (by kernel_rfl) rfl (Stp.lit (vals := [(0, .slice qaa (c).length qac), (1, .slice qca (Tick.be8 (Tick.bits t)).length qcc), (2, .slice qda (Tick.be8 (Tick.bits z)).length qdc)]) (cs := #[.slice qaa (c).length qac, .slice qca (Tick.be8 (Tick.bits t)).length qcc, .slice qda (Tick.be8 (Tick.bits z)).length qdc]) (e := 30) rfl rfl (fun _ => by kernel_rfl) rfl rfl hS ?_)
      intro b26 w hb26 hS hkp hnw
      have hF := hS.freezeG (i := 0) rfl hb26
      obtain ⟨MC, hG9, hlt, hS⟩ : ∃ M9, Grow w0.heap.size MC M9 ∧ M9 b26 = some (.cells #[.slice qaa (c).length qac, .slice qca (Tick.be8 (Tick.bits t)).length qcc, .slice qda (Tick.be8 (Tick.bits z)).length qdc] 30 (0, 0)) ∧ St w0 w M9 [] := ⟨_, hF.2, PH.add_self _ _ _, hF.1⟩
      have hGC := hGC.trans hG9
      have qa := qa.mono hG9.1
      have qc := qc.mono hG9.1
      have qd := qd.mono hG9.1
      have hK0 : On M1 w := (hS.known hGC.1).on
      refine ⟨hK0, ?_⟩
      refine AL.one 12 rfl (by kernel_rfl) rfl (Stp.callG (args := [_]) rfl rfl rfl cal76 rfl rfl hS (value_ok b26 0 3 [.slice qaa (c).length qac, .slice qca (Tick.be8 (Tick.bits t)).length qcc, .slice qda (Tick.be8 (Tick.bits z)).length qdc] (Tick.authL c t z) _ _ hS.on (fun j x hj => by rw [Nat.zero_add]; exact PH.cell_of hlt (by rw [List.getElem?_toArray]; exact hj)) ⟨rfl, fun j hj => by
        rcases (by have hj' : j < 3 := hj; omega : j = 0 ∨ j = 1 ∨ j = 2) with rfl | rfl | rfl
        · exact ⟨_, rfl, qa⟩
        · exact ⟨_, rfl, qc⟩
        · exact ⟨_, rfl, qd⟩⟩ (by show 0 < 3; decide) (by show 3 ≤ 255; decide) (Tick.auth_le hc)) ?_)
      rintro vv w MX hS hG9 hvv
      obtain ⟨MC, hMC⟩ : ∃ MC, MC = MX := ⟨_, rfl⟩
      subst hMC
      have hGC := hGC.trans hG9
      have hK0 : On M1 w := (hS.known hGC.1).on
      refine ⟨hK0, ?_⟩
      refine AL.one 13 rfl (by kernel_rfl) rfl (Stp.callG (args := [_, _, _, _]) rfl rfl rfl cal88 rfl rfl hS (seal_all _ _ _ key conf (Tick.enc 0 (Tick.authL c t z)) 11 _ _ hS.on (hgl.mono (hG1.trans hGC).1) (hkey.mono (hG1.trans hGC).1) (hconf.mono (hG1.trans hGC).1) hvv) ?_)
      rintro _ w MX hS hG9 ⟨sv, rfl, hsv⟩
      obtain ⟨MC, hMC⟩ : ∃ MC, MC = MX := ⟨_, rfl⟩
      subst hMC
      have hGC := hGC.trans hG9
      have hK0 : On M1 w := (hS.known hGC.1).on
      refine ⟨hK0, ?_⟩
      refine AL.take 14 rfl (by kernel_rfl) (by kernel_rfl) (by kernel_rfl) rfl rfl rfl hK0 (fun w hK => Res.extract (l := [_, _]) rfl rfl rfl) ?_
      refine AL.take 15 rfl (by kernel_rfl) (by kernel_rfl) (by kernel_rfl) rfl rfl rfl hK0 (fun w hK => Res.extract (l := [_, _]) rfl rfl rfl) ?_
      refine AL.take 16 rfl (by kernel_rfl) (by kernel_rfl) (by kernel_rfl) rfl rfl rfl hK0 (fun w hK => Res.assign rfl rfl) ?_
      refine AL.take 17 rfl (by kernel_rfl) (by kernel_rfl) (by kernel_rfl) rfl rfl rfl hK0 (fun w hK => Res.assign rfl rfl) ?_
      refine AL.done (by kernel_rfl) (Thn_n ?_)
      exact ⟨_, _, ⟨rfl, rfl, trivial⟩, hGC, hS, hsv⟩
    · refine Stp.callG (args := [_]) rfl rfl rfl cal77 rfl rfl hS (gint8_ok (t) _ _ hS.on ht) ?_
      rintro yqc w MX hS hG9 qc
      obtain ⟨qca, qcc, rfl, -, -, -, -⟩ := id qc
      obtain ⟨MC, hMC⟩ : ∃ MC, MC = MX := ⟨_, rfl⟩
      subst hMC
      have hGC := hGC.trans hG9
      try (have qa := qa.mono hG9.1)
      try (have qd := qd.mono hG9.1)
      have hK0 : On M1 w := (hS.known hGC.1).on
      refine ⟨hK0, ?_⟩
      refine AL.two 4 10 rfl rfl (by kernel_rfl) rfl rfl ?_ ?_
      · refine Stp.s2b (l := c) rfl rfl underlying9 underlying30 underlying5 (by omega) hS rfl rfl ?_
        intro w yqa MX hS hG9 qa
        obtain ⟨qaa, qac, rfl, -, -, -, -⟩ := id qa
        obtain ⟨MC, hMC⟩ : ∃ MC, MC = MX := ⟨_, rfl⟩
        subst hMC
        have hGC := hGC.trans hG9
        try (have qc := qc.mono hG9.1)
        try (have qd := qd.mono hG9.1)
        have hK0 : On M1 w := (hS.known hGC.1).on
        refine ⟨hK0, ?_⟩
        refine AL.one 10 rfl (by kernel_rfl) rfl (Stp.callG (args := [_]) rfl rfl rfl cal77 rfl rfl hS (gint8_ok (z) _ _ hS.on hz) ?_)
        rintro yqd w MX hS hG9 qd
        obtain ⟨qda, qdc, rfl, -, -, -, -⟩ := id qd
        obtain ⟨MC, hMC⟩ : ∃ MC, MC = MX := ⟨_, rfl⟩
        subst hMC
        have hGC := hGC.trans hG9
        try (have qa := qa.mono hG9.1)
        try (have qc := qc.mono hG9.1)
        have hK0 : On M1 w := (hS.known hGC.1).on
        refine ⟨hK0, ?_⟩
        refine AL.one 11 rfl (by kernel_rfl) rfl (Stp.lit (vals := [(0, .slice qaa (c).length qac), (1, .slice qca (Tick.be8 (Tick.bits t)).length qcc), (2, .slice qda (Tick.be8 (Tick.bits z)).length qdc)]) (cs := #[.slice qaa (c).length qac, .slice qca (Tick.be8 (Tick.bits t)).length qcc, .slice qda (Tick.be8 (Tick.bits z)).length qdc]) (e := 30) rfl rfl (fun _ => by kernel_rfl) rfl rfl hS ?_)
        intro b26 w hb26 hS hkp hnw
        have hF := hS.freezeG (i := 0) rfl hb26
        obtain ⟨MC, hG9, hlt, hS⟩ : ∃ M9, Grow w0.heap.size MC M9 ∧ M9 b26 = some (.cells #[.slice qaa (c).length qac, .slice qca (Tick.be8 (Tick.bits t)).length qcc, .slice qda (Tick.be8 (Tick.bits z)).length qdc] 30 (0, 0)) ∧ St w0 w M9 [] := ⟨_, hF.2, PH.add_self _ _ _, hF.1⟩
        have hGC := hGC.trans hG9
        have qa := qa.mono hG9.1
        have qc := qc.mono hG9.1
        have qd := qd.mono hG9.1
        have hK0 : On M1 w := (hS.known hGC.1).on
        refine ⟨hK0, ?_⟩
        refine AL.one 12 rfl (by kernel_rfl) rfl (Stp.callG (args := [_]) rfl rfl rfl cal76 rfl rfl hS (value_ok b26 0 3 [.slice qaa (c).length qac, .slice qca (Tick.be8 (Tick.bits t)).length qcc, .slice qda (Tick.be8 (Tick.bits z)).length qdc] (Tick.authL c t z) _ _ hS.on (fun j x hj => by rw [Nat.zero_add]; exact PH.cell_of hlt (by rw [List.getElem?_toArray]; exact hj)) ⟨rfl, fun j hj => by
          rcases (by have hj' : j < 3 := hj; omega : j = 0 ∨ j = 1 ∨ j = 2) with rfl | rfl | rfl
          · exact ⟨_, rfl, qa⟩
          · exact ⟨_, rfl, qc⟩
          · exact ⟨_, rfl, qd⟩⟩ (by show 0 < 3; decide) (by show 3 ≤ 255; decide) (Tick.auth_le hc)) ?_)
        rintro vv w MX hS hG9 hvv
        obtain ⟨MC, hMC⟩ : ∃ MC, MC = MX := ⟨_, rfl⟩
        subst hMC
        have hGC := hGC.trans hG9
        have hK0 : On M1 w := (hS.known hGC.1).on
        refine ⟨hK0, ?_⟩
        refine AL.one 13 rfl (by kernel_rfl) rfl (Stp.callG (args := [_, _, _, _]) rfl rfl rfl cal88 rfl rfl hS (seal_all _ _ _ key conf (Tick.enc 0 (Tick.authL c t z)) 11 _ _ hS.on (hgl.mono (hG1.trans hGC).1) (hkey.mono (hG1.trans hGC).1) (hconf.mono (hG1.trans hGC).1) hvv) ?_)
        rintro _ w MX hS hG9 ⟨sv, rfl, hsv⟩
        obtain ⟨MC, hMC⟩ : ∃ MC, MC = MX := ⟨_, rfl⟩
        subst hMC
        have hGC := hGC.trans hG9
        have hK0 : On M1 w := (hS.known hGC.1).on
        refine ⟨hK0, ?_⟩
        refine AL.take 14 rfl (by kernel_rfl) (by kernel_rfl) (by kernel_rfl) rfl rfl rfl hK0 (fun w hK => Res.extract (l := [_, _]) rfl rfl rfl) ?_
        refine AL.take 15 rfl (by kernel_rfl) (by kernel_rfl) (by kernel_rfl) rfl rfl rfl hK0 (fun w hK => Res.extract (l := [_, _]) rfl rfl rfl) ?_
        refine AL.take 16 rfl (by kernel_rfl) (by kernel_rfl) (by kernel_rfl) rfl rfl rfl hK0 (fun w hK => Res.assign rfl rfl) ?_
        refine AL.take 17 rfl (by kernel_rfl) (by kernel_rfl) (by kernel_rfl) rfl rfl rfl hK0 (fun w hK => Res.assign rfl rfl) ?_
        refine AL.done (by kernel_rfl) (Thn_n ?_)
        exact ⟨_, _, ⟨rfl, rfl, trivial⟩, hGC, hS, hsv⟩
      · refine Stp.callG (args := [_]) rfl rfl rfl cal77 rfl rfl hS (gint8_ok (z) _ _ hS.on hz) ?_
        rintro yqd w MX hS hG9 qd
        obtain ⟨qda, qdc, rfl, -, -, -, -⟩ := id qd
        obtain ⟨MC, hMC⟩ : ∃ MC, MC = MX := ⟨_, rfl⟩
        subst hMC
        have hGC := hGC.trans hG9
        try (have qa := qa.mono hG9.1)
        try (have qc := qc.mono hG9.1)
        have hK0 : On M1 w := (hS.known hGC.1).on
        refine ⟨hK0, ?_⟩
        refine AL.one 4 rfl (by kernel_rfl) rfl (Stp.s2b (l := c) rfl rfl underlying9 underlying30 underlying5 (by omega) hS rfl rfl ?_)
        intro w yqa MX hS hG9 qa
        obtain ⟨qaa, qac, rfl, -, -, -, -⟩ := id qa
        obtain ⟨MC, hMC⟩ : ∃ MC, MC = MX := ⟨_, rfl⟩
        subst hMC
        have hGC := hGC.trans hG9
        try (have qc := qc.mono hG9.1)
        try (have qd := qd.mono hG9.1)
        have hK0 : On M1 w := (hS.known hGC.1).on
        refine ⟨hK0, ?_⟩
        refine AL.one 11 rfl (by kernel_rfl) rfl (Stp.lit (vals := [(0, .slice qaa (c).length qac), (1, .slice qca (Tick.be8 (Tick.bits t)).length qcc), (2, .slice qda (Tick.be8 (Tick.bits z)).length qdc)]) (cs := #[.slice qaa (c).length qac, .slice qca (Tick.be8 (Tick.bits t)).length qcc, .slice qda (Tick.be8 (Tick.bits z)).length qdc]) (e := 30) rfl rfl (fun _ => by kernel_rfl) rfl rfl hS ?_)
        intro b26 w hb26 hS hkp hnw
        have hF := hS.freezeG (i := 0) rfl hb26
        obtain ⟨MC, hG9, hlt, hS⟩ : ∃ M9, Grow w0.heap.size MC M9 ∧ M9 b26 = some (.cells #[.slice qaa (c).length qac, .slice qca (Tick.be8 (Tick.bits t)).length qcc, .slice qda (Tick.be8 (Tick.bits z)).length qdc] 30 (0, 0)) ∧ St w0 w M9 [] := ⟨_, hF.2, PH.add_self _ _ _, hF.1⟩
        have hGC := hGC.trans hG9
        have qa := qa.mono hG9.1
        have qc := qc.mono hG9.1
        have qd := qd.mono hG9.1
        have hK0 : On M1 w := (hS.known hGC.1).on
        refine ⟨hK0, ?_⟩
        refine AL.one 12 rfl (by kernel_rfl) rfl (Stp.callG (args := [_]) rfl rfl rfl cal76 rfl rfl hS (value_ok b26 0 3 [.slice qaa (c).length qac, .slice qca (Tick.be8 (Tick.bits t)).length qcc, .slice qda (Tick.be8 (Tick.bits z)).length qdc] (Tick.authL c t z) _ _ hS.on (fun j x hj => by rw [Nat.zero_add]; exact PH.cell_of hlt (by rw [List.getElem?_toArray]; exact hj)) ⟨rfl, fun j hj => by
          rcases (by have hj' : j < 3 := hj; omega : j = 0 ∨ j = 1 ∨ j = 2) with rfl | rfl | rfl
          · exact ⟨_, rfl, qa⟩
          · exact ⟨_, rfl, qc⟩
          · exact ⟨_, rfl, qd⟩⟩ (by show 0 < 3; decide) (by show 3 ≤ 255; decide) (Tick.auth_le hc)) ?_)
        rintro vv w MX hS hG9 hvv
        obtain ⟨MC, hMC⟩ : ∃ MC, MC = MX := ⟨_, rfl⟩
        subst hMC
        have hGC := hGC.trans hG9
        have hK0 : On M1 w := (hS.known hGC.1).on
        refine ⟨hK0, ?_⟩
        refine AL.one 13 rfl (by kernel_rfl) rfl (Stp.callG (args := [_, _, _, _]) rfl rfl rfl cal88 rfl rfl hS (seal_all _ _ _ key conf (Tick.enc 0 (Tick.authL c t z)) 11 _ _ hS.on (hgl.mono (hG1.trans hGC).1) (hkey.mono (hG1.trans hGC).1) (hconf.mono (hG1.trans hGC).1) hvv) ?_)
        rintro _ w MX hS hG9 ⟨sv, rfl, hsv⟩
        obtain ⟨MC, hMC⟩ : ∃ MC, MC = MX := ⟨_, rfl⟩
        subst hMC
        have hGC := hGC.trans hG9
        have hK0 : On M1 w := (hS.known hGC.1).on
        refine ⟨hK0, ?_⟩
        refine AL.take 14 rfl (by kernel_rfl) (by kernel_rfl) (by kernel_rfl) rfl rfl rfl hK0 (fun w hK => Res.extract (l := [_, _]) rfl rfl rfl) ?_
        refine AL.take 15 rfl (by kernel_rfl) (by kernel_rfl) (by kernel_rfl) rfl rfl rfl hK0 (fun w hK => Res.extract (l := [_, _]) rfl rfl rfl) ?_
        refine AL.take 16 rfl (by kernel_rfl) (by kernel_rfl) (by kernel_rfl) rfl rfl rfl hK0 (fun w hK => Res.assign rfl rfl) ?_
        refine AL.take 17 rfl (by kernel_rfl) (by kernel_rfl) (by kernel_rfl) rfl rfl rfl hK0 (fun w hK => Res.assign rfl rfl) ?_
        refine AL.done (by kernel_rfl) (Thn_n ?_)
        exact ⟨_, _, ⟨rfl, rfl, trivial⟩, hGC, hS, hsv⟩
  · rintro L2 w2 ⟨v, M5, hsub, hG5, hS, hvv⟩
    refine (Thn_n (CW.sub hsub ?_))
    refine CW.ret ?_
    exact fq_tmp2 rfl rfl rfl ⟨M5, hS, (hG1.trans hG5).1, (hG1.trans hG5).2, _, rfl, hvv⟩
theorem gseal_all (kv cv : Value) (key conf c : List UInt8) (t z : Int) (w0 : World) (M : PH) (hM : On M w0) (hgl : GL M) (hkey : Bs M kv key) (hconf : Bs M cv conf) (ht : Tick.inI t) (hz : Tick.inI z) : Ok Tryz.prog 44 #[kv, cv, .agg #[Go.E.str c, .int .i64 t, .int .i64 z]] w0 M (fun M' r => ∃ v, r = .tuple #[v, .int .i64 (Tick.sealA key conf c t z).2] ∧ Bs M' v (Tick.sealA key conf c t z).1) := by
  by_cases hok : Tick.okAuth c t
  · rw [Tick.sealA, if_pos hok]
    exact gseal_yes kv cv key conf c t z w0 M hM hgl hkey hconf ht hz hok
  · rw [Tick.sealA, if_neg hok]
    exact (gseal_no kv cv key conf c t z w0 M hM hok).imp fun M' r _ h => ⟨_, h, Bs.nil _⟩
end Go.Proofs.YtcmgimicdcchlaaGreatDoor
set_option linter.unusedVariables false
set_option maxRecDepth 20000
namespace Go.Proofs.YtcmgimicdcchlaaGreatDoor
open Go.Proofs.Tryz
open Go Go.E
theorem ganswer_no (kv cv : Value) (key conf c : List UInt8) (t z : Int) (w0 : World) (M : PH) (hM : On M w0) (hno : ¬ Tick.okAuth c t) : Ok Tryz.prog 46 #[kv, cv, .agg #[Go.E.str c, .int .i64 t, .int .i64 z]] w0 M (fun M' r => r = .tuple #[.slice none 0 0, .int .i64 200]) := by
  have hS := hM.st
  refine enterB (l := [kv, cv, .agg #[Go.E.str c, .int .i64 t, .int .i64 z]]) 28 func46 rfl ntmps46 rfl ?_
  refine CW.seq ?_
  refine CW.region ?_
  refine WL.step rfl (Stp.boxA rfl rfl rfl rfl hS ?_)
  intro b5 w hb5 hS hkp hnw
  refine WL.step rfl (Stp.res rfl rfl (Res.assign rfl rfl) ?_)
  refine WL.step rfl (Stp.res rfl rfl (Res.assign rfl rfl) ?_)
  refine WL.nil (Thn_n ?_)
  refine CW.seq ?_
  refine CW.seq ?_
  have hF := hS.freezeG (i := 0) rfl hb5
  obtain ⟨M1, hG1, hbox, hS⟩ : ∃ M1, Grow w0.heap.size M M1 ∧ M1 b5 = some (.cells #[Go.E.str c, .int .i64 t, .int .i64 z] 67 (0, 0)) ∧ St w0 w M1 [] := ⟨_, hF.2, PH.add_self _ _ _, hF.1⟩
  refine CW.region ?_
  refine WL.step rfl (Stp.res rfl rfl (Res.loadAll (cs := #[Go.E.str c, .int .i64 t, .int .i64 z]) rfl rfl underlying67 rfl (sz67) (hS.on _ _ hbox)) ?_)
  refine WL.step rfl (Stp.callG (args := [_]) rfl rfl rfl cal87 rfl rfl hS (gright_ok c t z _ _ hS.on) ?_)
  rintro rv w MY hS hGY hEr
  obtain ⟨M1, hG1, hbox, hS, hEr⟩ : ∃ M1', Grow w0.heap.size M M1' ∧ M1' b5 = some (.cells #[Go.E.str c, .int .i64 t, .int .i64 z] 67 (0, 0)) ∧ St w0 w M1' [] ∧ Ez M1' 1 (Tick.okAuth c t) rv := ⟨MY, hG1.trans hGY, hGY.1 _ _ hbox, hS, hEr⟩
  obtain ⟨et, eu, rfl, hIT⟩ := hEr.no hno
  refine WL.step rfl (Stp.res rfl rfl (Res.assign rfl rfl) ?_)
  refine WL.nil (Thn_n ?_)
  refine CW.seq ?_
  refine CW.region ?_
  refine WL.step rfl (Stp.res rfl rfl (Res.move rfl rfl) ?_)
  refine WL.step rfl (Stp.res rfl rfl (Res.neqIN rfl rfl underlying86) ?_)
  refine WL.nil (Thn_n ?_)
  refine CW.condT rfl ?_
  refine CW.seq ?_
  refine CW.region ?_
  refine WL.step rfl (Stp.res rfl rfl (Res.move rfl rfl) ?_)
  refine WL.step rfl (Stp.callG (args := [_]) rfl rfl rfl cal75 rfl rfl hS (tnum_ok 1 et eu _ _ hS.on hIT) ?_)
  rintro _ w _ hS _ ⟨rfl, rfl⟩
  refine WL.step rfl (Stp.res rfl rfl (Res.assign rfl rfl) ?_)
  refine WL.step rfl (Stp.res rfl rfl (Res.assign rfl rfl) ?_)
  refine WL.nil (Thn_n ?_)
  refine CW.ret (Thn_r ?_)
  exact fq_tmp2 rfl rfl rfl ⟨M1, hS, hG1.1, hG1.2, rfl⟩
theorem ganswer_yes (kv cv : Value) (key conf c : List UInt8) (t z : Int) (w0 : World) (M : PH) (hM : On M w0) (hgl : GL M) (hkey : Bs M kv key) (hconf : Bs M cv conf) (ht : Tick.inI t) (hz : Tick.inI z) (hok : Tick.okAuth c t) : Ok Tryz.prog 46 #[kv, cv, .agg #[Go.E.str c, .int .i64 t, .int .i64 z]] w0 M (fun M' r => ∃ v, r = .tuple #[v, .int .i64 (Seal.sealR key 12 conf (Tick.enc 0 (Tick.ansL t z))).2] ∧ Bs M' v (Seal.sealR key 12 conf (Tick.enc 0 (Tick.ansL t z))).1) := by
  have hS := hM.st
  refine enterB (l := [kv, cv, .agg #[Go.E.str c, .int .i64 t, .int .i64 z]]) 28 func46 rfl ntmps46 rfl ?_
  refine CW.seq ?_
  refine CW.region ?_
  refine WL.step rfl (Stp.boxA rfl rfl rfl rfl hS ?_)
  intro b5 w hb5 hS hkp hnw
  refine WL.step rfl (Stp.res rfl rfl (Res.assign rfl rfl) ?_)
  refine WL.step rfl (Stp.res rfl rfl (Res.assign rfl rfl) ?_)
  refine WL.nil (Thn_n ?_)
  refine CW.seq ?_
  refine CW.seq ?_
  have hF := hS.freezeG (i := 0) rfl hb5
  obtain ⟨M1, hG1, hbox, hS⟩ : ∃ M1, Grow w0.heap.size M M1 ∧ M1 b5 = some (.cells #[Go.E.str c, .int .i64 t, .int .i64 z] 67 (0, 0)) ∧ St w0 w M1 [] := ⟨_, hF.2, PH.add_self _ _ _, hF.1⟩
  refine CW.region ?_
  refine WL.step rfl (Stp.res rfl rfl (Res.loadAll (cs := #[Go.E.str c, .int .i64 t, .int .i64 z]) rfl rfl underlying67 rfl (sz67) (hS.on _ _ hbox)) ?_)
  refine WL.step rfl (Stp.callG (args := [_]) rfl rfl rfl cal87 rfl rfl hS (gright_ok c t z _ _ hS.on) ?_)
  rintro rv w MY hS hGY hEr
  obtain ⟨M1, hG1, hbox, hS, hEr⟩ : ∃ M1', Grow w0.heap.size M M1' ∧ M1' b5 = some (.cells #[Go.E.str c, .int .i64 t, .int .i64 z] 67 (0, 0)) ∧ St w0 w M1' [] ∧ Ez M1' 1 (Tick.okAuth c t) rv := ⟨MY, hG1.trans hGY, hGY.1 _ _ hbox, hS, hEr⟩
  obtain rfl := hEr.ok hok
  refine WL.step rfl (Stp.res rfl rfl (Res.assign rfl rfl) ?_)
  refine WL.nil (Thn_n ?_)
  refine CW.seq ?_
  refine CW.region ?_
  refine WL.step rfl (Stp.res rfl rfl (Res.move rfl rfl) ?_)
  refine WL.step rfl (Stp.res rfl rfl (Res.neqNN rfl rfl underlying86) ?_)
  refine WL.nil (Thn_n ?_)
  refine CW.condF rfl ?_
  refine CW.skip (Thn_n ?_)
  refine CW.seq ?_
  obtain ⟨hc, hct⟩ := hok
  have hcl := hc.2
  obtain ⟨MC, hMC, hGC⟩ : ∃ MC, MC = M1 ∧ Grow w0.heap.size M1 MC := ⟨M1, rfl, Grow.refl _ _⟩
  rw [← hMC] at hS
  clear hMC
  have hS := hS.drew
  refine CW.post (fun L' w' => ∃ v M5, Sub [(6, v), (7, .int .i64 (Seal.sealR key 12 conf (Tick.enc 0 (Tick.ansL t z))).2)] L' ∧ Grow w0.heap.size M1 M5 ∧ St w0 w' M5 [] ∧ Bs M5 v (Seal.sealR key 12 conf (Tick.enc 0 (Tick.ansL t z))).1) ?_ ?_
  · have hK0 := (hS.known hGC.1).on
    refine CW.held (fun w => On M1 w) mixed ?_
    refine AL.take 0 rfl (by kernel_rfl) (by kernel_rfl) (by kernel_rfl) rfl rfl rfl hK0 (fun w hK => Res.move rfl rfl) ?_
    refine AL.take 1 rfl (by kernel_rfl) (by kernel_rfl) (by kernel_rfl) rfl rfl rfl hK0 (fun w hK => Res.move rfl rfl) ?_
    refine AL.take 2 rfl (by kernel_rfl) (by kernel_rfl) (by kernel_rfl) rfl rfl rfl hK0 (fun w hK => Res.fieldA rfl rfl underlying67 rfl (show SZ Tryz.prog _ 1 from sz3) (by decide)) ?_
    refine AL.take 3 rfl (by kernel_rfl) (by kernel_rfl) (by kernel_rfl) rfl rfl rfl hK0 (fun w hK => Res.load1 (v := .int .i64 t) rfl rfl underlying3 rfl (w := w) (hK.st.cell (PH.cell_of hbox rfl))) ?_
    refine AL.take 5 rfl (by kernel_rfl) (by kernel_rfl) (by kernel_rfl) rfl rfl rfl hK0 (fun w hK => Res.fieldA rfl rfl underlying67 rfl (show SZ Tryz.prog _ 1 from sz3) (by decide)) ?_
    refine AL.take 6 rfl (by kernel_rfl) (by kernel_rfl) (by kernel_rfl) rfl rfl rfl hK0 (fun w hK => Res.load1 (v := .int .i64 z) rfl rfl underlying3 rfl (w := w) (hK.st.cell (PH.cell_of hbox rfl))) ?_
    refine AL.one 4 rfl (by kernel_rfl) rfl (Stp.callG (args := [_]) rfl rfl rfl cal77 rfl rfl hS (gint8_ok (t) _ _ hS.on ht) ?_)
    rintro yqc w MX hS hG9 qc
    obtain ⟨qca, qcc, rfl, -, -, -, -⟩ := id qc
    obtain ⟨MC, hMC⟩ : ∃ MC, MC = MX := ⟨_, rfl⟩
    subst hMC
    have hGC := hGC.trans hG9
    try (have qd := qd.mono hG9.1)
    have hK0 : On M1 w := (hS.known hGC.1).on
    refine ⟨hK0, ?_⟩
    refine AL.one 7 rfl (by kernel_rfl) rfl (Stp.callG (args := [_]) rfl rfl rfl cal77 rfl rfl hS (gint8_ok (z) _ _ hS.on hz) ?_)
    rintro yqd w MX hS hG9 qd
    obtain ⟨qda, qdc, rfl, -, -, -, -⟩ := id qd
    obtain ⟨MC, hMC⟩ : ∃ MC, MC = MX := ⟨_, rfl⟩
    subst hMC
    have hGC := hGC.trans hG9
    try (have qc := qc.mono hG9.1)
    have hK0 : On M1 w := (hS.known hGC.1).on
    refine ⟨hK0, ?_⟩
    refine AL.one 8 rfl (by kernel_rfl) rfl (Stp.lit (vals := [(0, .slice qca (Tick.be8 (Tick.bits t)).length qcc), (1, .slice qda (Tick.be8 (Tick.bits z)).length qdc)]) (cs := #[.slice qca (Tick.be8 (Tick.bits t)).length qcc, .slice qda (Tick.be8 (Tick.bits z)).length qdc]) (e := 30) rfl rfl (fun _ => by kernel_rfl) rfl rfl hS ?_)
    intro b23 w hb23 hS hkp hnw
    have hF := hS.freezeG (i := 0) rfl hb23
    obtain ⟨MC, hG9, hlt, hS⟩ : ∃ M9, Grow w0.heap.size MC M9 ∧ M9 b23 = some (.cells #[.slice qca (Tick.be8 (Tick.bits t)).length qcc, .slice qda (Tick.be8 (Tick.bits z)).length qdc] 30 (0, 0)) ∧ St w0 w M9 [] := ⟨_, hF.2, PH.add_self _ _ _, hF.1⟩
    have hGC := hGC.trans hG9
    have qc := qc.mono hG9.1
    have qd := qd.mono hG9.1
    have hK0 : On M1 w := (hS.known hGC.1).on
    refine ⟨hK0, ?_⟩
    refine AL.one 9 rfl (by kernel_rfl) rfl (Stp.callG (args := [_]) rfl rfl rfl cal76 rfl rfl hS (value_ok b23 0 2 [.slice qca (Tick.be8 (Tick.bits t)).length qcc, .slice qda (Tick.be8 (Tick.bits z)).length qdc] (Tick.ansL t z) _ _ hS.on (fun j x hj => by rw [Nat.zero_add]; exact PH.cell_of hlt (by rw [List.getElem?_toArray]; exact hj)) ⟨rfl, fun j hj => by
      rcases (by have hj' : j < 2 := hj; omega : j = 0 ∨ j = 1) with rfl | rfl
      · exact ⟨_, rfl, qc⟩
      · exact ⟨_, rfl, qd⟩⟩ (by show 0 < 2; decide) (by show 2 ≤ 255; decide) (Tick.ans_le t z)) ?_)
    rintro vv w MX hS hG9 hvv
    obtain ⟨MC, hMC⟩ : ∃ MC, MC = MX := ⟨_, rfl⟩
    subst hMC
    have hGC := hGC.trans hG9
    have hK0 : On M1 w := (hS.known hGC.1).on
    refine ⟨hK0, ?_⟩
    refine AL.one 10 rfl (by kernel_rfl) rfl (Stp.callG (args := [_, _, _, _]) rfl rfl rfl cal88 rfl rfl hS (seal_all _ _ _ key conf (Tick.enc 0 (Tick.ansL t z)) 12 _ _ hS.on (hgl.mono (hG1.trans hGC).1) (hkey.mono (hG1.trans hGC).1) (hconf.mono (hG1.trans hGC).1) hvv) ?_)
    rintro _ w MX hS hG9 ⟨sv, rfl, hsv⟩
    obtain ⟨MC, hMC⟩ : ∃ MC, MC = MX := ⟨_, rfl⟩
    subst hMC
    have hGC := hGC.trans hG9
    have hK0 : On M1 w := (hS.known hGC.1).on
    refine ⟨hK0, ?_⟩
    refine AL.take 11 rfl (by kernel_rfl) (by kernel_rfl) (by kernel_rfl) rfl rfl rfl hK0 (fun w hK => Res.extract (l := [_, _]) rfl rfl rfl) ?_
    refine AL.take 12 rfl (by kernel_rfl) (by kernel_rfl) (by kernel_rfl) rfl rfl rfl hK0 (fun w hK => Res.extract (l := [_, _]) rfl rfl rfl) ?_
    refine AL.take 13 rfl (by kernel_rfl) (by kernel_rfl) (by kernel_rfl) rfl rfl rfl hK0 (fun w hK => Res.assign rfl rfl) ?_
    refine AL.take 14 rfl (by kernel_rfl) (by kernel_rfl) (by kernel_rfl) rfl rfl rfl hK0 (fun w hK => Res.assign rfl rfl) ?_
    refine AL.done (by kernel_rfl) (Thn_n ?_)
    exact ⟨_, _, ⟨rfl, rfl, trivial⟩, hGC, hS, hsv⟩
  · rintro L2 w2 ⟨v, M5, hsub, hG5, hS, hvv⟩
    refine (Thn_n (CW.sub hsub ?_))
    refine CW.ret ?_
    exact fq_tmp2 rfl rfl rfl ⟨M5, hS, (hG1.trans hG5).1, (hG1.trans hG5).2, _, rfl, hvv⟩
theorem ganswer_all (kv cv : Value) (key conf c : List UInt8) (t z : Int) (w0 : World) (M : PH) (hM : On M w0) (hgl : GL M) (hkey : Bs M kv key) (hconf : Bs M cv conf) (ht : Tick.inI t) (hz : Tick.inI z) : Ok Tryz.prog 46 #[kv, cv, .agg #[Go.E.str c, .int .i64 t, .int .i64 z]] w0 M (fun M' r => ∃ v, r = .tuple #[v, .int .i64 (Tick.answerA key conf c t z).2] ∧ Bs M' v (Tick.answerA key conf c t z).1) := by
  by_cases hok : Tick.okAuth c t
  · rw [Tick.answerA, if_pos hok]
    exact ganswer_yes kv cv key conf c t z w0 M hM hgl hkey hconf ht hz hok
  · rw [Tick.answerA, if_neg hok]
    exact (ganswer_no kv cv key conf c t z w0 M hM hok).imp fun M' r _ h => ⟨_, h, Bs.nil _⟩
end Go.Proofs.YtcmgimicdcchlaaGreatDoor
set_option linter.unusedVariables false
set_option maxRecDepth 20000
namespace Go.Proofs.YtcmgimicdcchlaaGreatDoor
open Go.Proofs.Tryz
open Go Go.E
end Go.Proofs.YtcmgimicdcchlaaGreatDoor
set_option linter.unusedVariables false
set_option maxRecDepth 20000
namespace Go.Proofs.YtcmgimicdcchlaaGreatDoor
open Go.Proofs.Tryz
open Go Go.E
end Go.Proofs.YtcmgimicdcchlaaGreatDoor
set_option linter.unusedVariables false
set_option maxRecDepth 20000
namespace Go.Proofs.YtcmgimicdcchlaaGreatDoor
open Go.Proofs.Tryz
open Go Go.E
end Go.Proofs.YtcmgimicdcchlaaGreatDoor
set_option linter.unusedVariables false
set_option maxRecDepth 20000
namespace Go.Proofs.YtcmgimicdcchlaaGreatDoor
open Go.Proofs.Tryz
open Go Go.E
theorem gname_ok (c : List UInt8) (t z : Int) (w0 : World) (M : PH) (hM : On M w0)  : Ok Tryz.prog 43 #[.agg #[Go.E.str c, .int .i64 t, .int .i64 z]] w0 M (fun M' r => M = M' ∧ r = .agg #[Go.E.str (c.take 100), .int .i64 t, .int .i64 z]) := by
  have hS := hM.st
  refine enterB (l := [.agg #[Go.E.str c, .int .i64 t, .int .i64 z]]) 12 func43 rfl ntmps43 rfl ?_
  refine CW.seq ?_
  refine CW.region ?_
  refine WL.step rfl (Stp.boxA rfl rfl rfl rfl hS ?_)
  intro b1 w hb1 hS hkp hnw
  refine WL.step rfl (Stp.alloc (cs := #[Go.E.str [], .int .i64 0, .int .i64 0]) rfl zAu rfl rfl rfl hS ?_)
  intro b2 w hb2 hS hkp hnw
  refine WL.nil (Thn_n ?_)
  refine CW.seq ?_
  refine CW.region ?_
  refine WL.step rfl (Stp.res rfl rfl (Res.fieldA rfl rfl underlying67 rfl (show SZ Tryz.prog _ 1 from sz9) (by decide)) ?_)
  refine WL.step rfl (Stp.res rfl rfl (Res.load1 (v := Go.E.str c) rfl rfl underlying9 rfl (hS.ocell (i := 1) rfl rfl)) ?_)
  refine WL.step rfl (Stp.res rfl rfl (Res.fieldA rfl rfl underlying67 rfl (show SZ Tryz.prog _ 1 from sz9) (by decide)) ?_)
  refine WL.step rfl (Stp.res rfl rfl (Res.load1 (v := Go.E.str c) rfl rfl underlying9 rfl (hS.ocell (i := 1) rfl rfl)) ?_)
  refine WL.step rfl (Stp.res rfl rfl (Res.cast (Res.lenStr rfl rfl rfl rfl underlying9) (v' := .int .i64 (c.length : Int)) (by simp [ByteArray.size])) ?_)
  refine WL.step rfl (Stp.res rfl rfl (Res.minN rfl rfl rfl) ?_)
  refine WL.step rfl (Stp.res rfl rfl (Res.cast (Res.sliceStr (h := min c.length 100) rfl rfl rfl underlying9 (by omega)) (by rw [show c.take (min c.length 100) = c.take 100 by rw [Nat.min_comm, ← List.take_take, List.take_of_length_le (Nat.le_refl c.length)]])) ?_)
  refine WL.step rfl (Stp.res rfl rfl (Res.fieldA rfl rfl underlying67 rfl (show SZ Tryz.prog _ 1 from sz9) (by decide)) ?_)
  refine WL.step rfl (Stp.store1 1 (v := Go.E.str (c.take 100)) rfl rfl rfl sz9 rfl rfl hS rfl (by show 0 < 3; decide) ?_)
  intro w hS hpt
  change St w0 w M [(b2, .cells #[Go.E.str [], .int .i64 0, .int .i64 0] 67 (0, 0)), (b1, .cells #[Go.E.str (c.take 100), .int .i64 t, .int .i64 z] 67 (0, 0))] at hS
  refine WL.nil (Thn_n ?_)
  refine CW.seq ?_
  refine CW.region ?_
  refine WL.step rfl (Stp.res rfl rfl (Res.loadAll (cs := #[Go.E.str (c.take 100), .int .i64 t, .int .i64 z]) rfl rfl underlying67 rfl (sz67) (hS.get (i := 1) rfl)) ?_)
  refine WL.step rfl (Stp.storeAll 0 rfl rfl rfl (sz67) one3 rfl hS rfl rfl ?_)
  intro w hS hpt
  refine WL.nil (Thn_n ?_)
  refine CW.ret ?_
  exact fq_cell rfl rfl (hS.get (i := 0) rfl) underlying67 rfl sz67 ⟨M, (hS.drop (i := 0) rfl hb2).drop (i := 0) rfl hb1, PH.le.refl _, Fresh.refl _ _, rfl, rfl⟩
end Go.Proofs.YtcmgimicdcchlaaGreatDoor
