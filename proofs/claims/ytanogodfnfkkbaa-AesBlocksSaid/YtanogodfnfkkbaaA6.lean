/- Own text of this seat (A6): lemmas on the way to the statement; no condition of its own. -/
import Derived.Test.YtanogodfnfkkbaaA5
set_option linter.unusedVariables false
namespace Go.Proofs.Ytanogodfnfkkbaa
open Go Go.E
theorem law_times_z (a b c : UInt8) (w0 : World) (M : PH) (hM : On M w0) (hz : a = 0) : Ok Try.prog 3 #[byte a, byte b, byte c] w0 M (fun M' r => M = M' ∧ r = .bool true) := by
  have hS := hM.st
  refine enterB (l := [byte a, byte b, byte c]) 59 Try.func3 rfl Try.ntmps3 rfl ?_
  refine CW.seq ?_
  refine CW.region ?_
  refine WL.step rfl (Stp.res rfl rfl (Res.assign rfl rfl) ?_)
  refine WL.nil (Thn_n ?_)
  refine CW.seq ?_
  refine CW.seq ?_
  refine CW.region ?_
  refine WL.step rfl (Stp.callB (args := []) rfl rfl rfl cal8 rfl rfl hS (works_ok _ _ hS.on) ?_)
  rintro _ w _ hS _ _ hkp ⟨rfl, rfl⟩
  refine WL.step rfl (Stp.res rfl rfl (Res.not rfl rfl rfl) ?_)
  refine WL.nil (Thn_n ?_)
  refine CW.condF rfl ?_
  refine CW.skip (Thn_n ?_)
  refine CW.seq ?_
  refine CW.region ?_
  refine WL.step rfl (Stp.res rfl rfl (Res.move rfl rfl) ?_)
  refine WL.step rfl (Stp.res rfl rfl (Res.move rfl rfl) ?_)
  refine WL.step rfl (Stp.callA (args := [_, _]) rfl rfl rfl cal9 rfl rfl (times_ok _ _ _) ?_)
  refine WL.step rfl (Stp.res rfl rfl (Res.assign rfl rfl) ?_)
  refine WL.nil (Thn_n ?_)
  refine CW.seq ?_
  refine CW.region ?_
  refine WL.step rfl (Stp.res rfl rfl (Res.move rfl rfl) ?_)
  refine WL.step rfl (Stp.res rfl rfl (Res.move rfl rfl) ?_)
  refine WL.step rfl (Stp.res rfl rfl (Res.move rfl rfl) ?_)
  refine WL.step rfl (Stp.callA (args := [_, _]) rfl rfl rfl cal9 rfl rfl (times_ok _ _ _) ?_)
  refine WL.step rfl (Stp.res rfl rfl (Res.to (Res.eqlB _ rfl rfl rfl) (Aes.times_comm a b)) ?_)
  refine WL.step rfl (Stp.res rfl rfl (Res.move rfl rfl) ?_)
  refine WL.stepG 5 true rfl rfl rfl rfl (Stp.res rfl rfl (Res.move rfl rfl) ?_)
  refine WL.stepG 5 true rfl rfl rfl rfl (Stp.res rfl rfl (Res.move rfl rfl) ?_)
  refine WL.stepG 5 true rfl rfl rfl rfl (Stp.callA (args := [_, _]) rfl rfl rfl cal9 rfl rfl (times_ok _ _ _) ?_)
  refine WL.stepG 5 true rfl rfl rfl rfl (Stp.res rfl rfl (Res.move rfl rfl) ?_)
  refine WL.stepG 5 true rfl rfl rfl rfl (Stp.res rfl rfl (Res.move rfl rfl) ?_)
  refine WL.stepG 5 true rfl rfl rfl rfl (Stp.res rfl rfl (Res.move rfl rfl) ?_)
  refine WL.stepG 5 true rfl rfl rfl rfl (Stp.callA (args := [_, _]) rfl rfl rfl cal9 rfl rfl (times_ok _ _ _) ?_)
  refine WL.stepG 5 true rfl rfl rfl rfl (Stp.callA (args := [_, _]) rfl rfl rfl cal9 rfl rfl (times_ok _ _ _) ?_)
  refine WL.stepG 5 true rfl rfl rfl rfl (Stp.res rfl rfl (Res.to (Res.eqlB _ rfl rfl rfl) (Aes.times_assoc a b c)) ?_)
  refine WL.step rfl (Stp.res rfl rfl (Res.pickT rfl rfl rfl) ?_)
  refine WL.step rfl (Stp.res rfl rfl (Res.move rfl rfl) ?_)
  refine WL.stepG 16 true rfl rfl rfl rfl (Stp.res rfl rfl (Res.move rfl rfl) ?_)
  refine WL.stepG 16 true rfl rfl rfl rfl (Stp.res rfl rfl (Res.move rfl rfl) ?_)
  refine WL.stepG 16 true rfl rfl rfl rfl (Stp.res rfl rfl (Res.move rfl rfl) ?_)
  refine WL.stepG 16 true rfl rfl rfl rfl (Stp.res rfl rfl (Res.xorB _ rfl rfl rfl) ?_)
  refine WL.stepG 16 true rfl rfl rfl rfl (Stp.callA (args := [_, _]) rfl rfl rfl cal9 rfl rfl (times_ok _ _ _) ?_)
  refine WL.stepG 16 true rfl rfl rfl rfl (Stp.res rfl rfl (Res.move rfl rfl) ?_)
  refine WL.stepG 16 true rfl rfl rfl rfl (Stp.res rfl rfl (Res.move rfl rfl) ?_)
  refine WL.stepG 16 true rfl rfl rfl rfl (Stp.res rfl rfl (Res.move rfl rfl) ?_)
  refine WL.stepG 16 true rfl rfl rfl rfl (Stp.callA (args := [_, _]) rfl rfl rfl cal9 rfl rfl (times_ok _ _ _) ?_)
  refine WL.stepG 16 true rfl rfl rfl rfl (Stp.res rfl rfl (Res.xorB _ rfl rfl rfl) ?_)
  refine WL.stepG 16 true rfl rfl rfl rfl (Stp.res rfl rfl (Res.to (Res.eqlB _ rfl rfl rfl) (Aes.times_xorr a b c)) ?_)
  refine WL.step rfl (Stp.res rfl rfl (Res.pickT rfl rfl rfl) ?_)
  refine WL.step rfl (Stp.res rfl rfl (Res.move rfl rfl) ?_)
  refine WL.stepG 29 true rfl rfl rfl rfl (Stp.res rfl rfl (Res.move rfl rfl) ?_)
  refine WL.stepG 29 true rfl rfl rfl rfl (Stp.res rfl rfl (Res.to (Res.eqlB 0 rfl rfl rfl) ((Aes.times_eq_zero a b).2 (.inl hz))) ?_)
  refine WL.stepG 29 true rfl rfl rfl rfl (Stp.res rfl rfl (Res.move rfl rfl) ?_)
  refine WL.stepG 29 true rfl rfl rfl rfl (Stp.res rfl rfl (Res.to (Res.eqlB 0 rfl rfl rfl) hz) ?_)
  refine WL.stepG 29 true rfl rfl rfl rfl (Stp.res rfl rfl (Res.move rfl rfl) ?_)
  refine WL.skipG 34 false rfl rfl rfl rfl rfl rfl ?_
  refine WL.skipG 34 false rfl rfl rfl rfl rfl rfl ?_
  refine WL.stepG 29 true rfl rfl rfl rfl (Stp.res rfl rfl (Res.pickT rfl rfl rfl) ?_)
  refine WL.stepG 29 true rfl rfl rfl rfl (Stp.res rfl rfl (Res.eqlBool rfl rfl rfl Try.underlying4) ?_)
  refine WL.step rfl (Stp.res rfl rfl (Res.pickT rfl rfl rfl) ?_)
  refine WL.step rfl (Stp.res rfl rfl (Res.move rfl rfl) ?_)
  refine WL.stepG 40 true rfl rfl rfl rfl (Stp.res rfl rfl (Res.move rfl rfl) ?_)
  refine WL.stepG 40 true rfl rfl rfl rfl (Stp.callA (args := [_, byte 1]) rfl rfl rfl cal9 rfl rfl (times_ok _ _ _) ?_)
  refine WL.stepG 40 true rfl rfl rfl rfl (Stp.res rfl rfl (Res.move rfl rfl) ?_)
  refine WL.stepG 40 true rfl rfl rfl rfl (Stp.res rfl rfl (Res.to (Res.eqlB _ rfl rfl rfl) (Aes.times_one a)) ?_)
  refine WL.step rfl (Stp.res rfl rfl (Res.pickT rfl rfl rfl) ?_)
  refine WL.step rfl (Stp.res rfl rfl (Res.assign rfl rfl) ?_)
  refine WL.nil (Thn_n ?_)
  refine CW.ret ?_
  exact fq_tmp rfl rfl ⟨M, hS, PH.le.refl _, Fresh.refl _ _, rfl, rfl⟩

theorem law_times_n (a b c : UInt8) (w0 : World) (M : PH) (hM : On M w0) (hz : ¬ a = 0) : Ok Try.prog 3 #[byte a, byte b, byte c] w0 M (fun M' r => M = M' ∧ r = .bool true) := by
  have hS := hM.st
  refine enterB (l := [byte a, byte b, byte c]) 59 Try.func3 rfl Try.ntmps3 rfl ?_
  refine CW.seq ?_
  refine CW.region ?_
  refine WL.step rfl (Stp.res rfl rfl (Res.assign rfl rfl) ?_)
  refine WL.nil (Thn_n ?_)
  refine CW.seq ?_
  refine CW.seq ?_
  refine CW.region ?_
  refine WL.step rfl (Stp.callB (args := []) rfl rfl rfl cal8 rfl rfl hS (works_ok _ _ hS.on) ?_)
  rintro _ w _ hS _ _ hkp ⟨rfl, rfl⟩
  refine WL.step rfl (Stp.res rfl rfl (Res.not rfl rfl rfl) ?_)
  refine WL.nil (Thn_n ?_)
  refine CW.condF rfl ?_
  refine CW.skip (Thn_n ?_)
  refine CW.seq ?_
  refine CW.region ?_
  refine WL.step rfl (Stp.res rfl rfl (Res.move rfl rfl) ?_)
  refine WL.step rfl (Stp.res rfl rfl (Res.move rfl rfl) ?_)
  refine WL.step rfl (Stp.callA (args := [_, _]) rfl rfl rfl cal9 rfl rfl (times_ok _ _ _) ?_)
  refine WL.step rfl (Stp.res rfl rfl (Res.assign rfl rfl) ?_)
  refine WL.nil (Thn_n ?_)
  refine CW.seq ?_
  refine CW.region ?_
  refine WL.step rfl (Stp.res rfl rfl (Res.move rfl rfl) ?_)
  refine WL.step rfl (Stp.res rfl rfl (Res.move rfl rfl) ?_)
  refine WL.step rfl (Stp.res rfl rfl (Res.move rfl rfl) ?_)
  refine WL.step rfl (Stp.callA (args := [_, _]) rfl rfl rfl cal9 rfl rfl (times_ok _ _ _) ?_)
  refine WL.step rfl (Stp.res rfl rfl (Res.to (Res.eqlB _ rfl rfl rfl) (Aes.times_comm a b)) ?_)
  refine WL.step rfl (Stp.res rfl rfl (Res.move rfl rfl) ?_)
  refine WL.stepG 5 true rfl rfl rfl rfl (Stp.res rfl rfl (Res.move rfl rfl) ?_)
  refine WL.stepG 5 true rfl rfl rfl rfl (Stp.res rfl rfl (Res.move rfl rfl) ?_)
  refine WL.stepG 5 true rfl rfl rfl rfl (Stp.callA (args := [_, _]) rfl rfl rfl cal9 rfl rfl (times_ok _ _ _) ?_)
  refine WL.stepG 5 true rfl rfl rfl rfl (Stp.res rfl rfl (Res.move rfl rfl) ?_)
  refine WL.stepG 5 true rfl rfl rfl rfl (Stp.res rfl rfl (Res.move rfl rfl) ?_)
  refine WL.stepG 5 true rfl rfl rfl rfl (Stp.res rfl rfl (Res.move rfl rfl) ?_)
  refine WL.stepG 5 true rfl rfl rfl rfl (Stp.callA (args := [_, _]) rfl rfl rfl cal9 rfl rfl (times_ok _ _ _) ?_)
  refine WL.stepG 5 true rfl rfl rfl rfl (Stp.callA (args := [_, _]) rfl rfl rfl cal9 rfl rfl (times_ok _ _ _) ?_)
  refine WL.stepG 5 true rfl rfl rfl rfl (Stp.res rfl rfl (Res.to (Res.eqlB _ rfl rfl rfl) (Aes.times_assoc a b c)) ?_)
  refine WL.step rfl (Stp.res rfl rfl (Res.pickT rfl rfl rfl) ?_)
  refine WL.step rfl (Stp.res rfl rfl (Res.move rfl rfl) ?_)
  refine WL.stepG 16 true rfl rfl rfl rfl (Stp.res rfl rfl (Res.move rfl rfl) ?_)
  refine WL.stepG 16 true rfl rfl rfl rfl (Stp.res rfl rfl (Res.move rfl rfl) ?_)
  refine WL.stepG 16 true rfl rfl rfl rfl (Stp.res rfl rfl (Res.move rfl rfl) ?_)
  refine WL.stepG 16 true rfl rfl rfl rfl (Stp.res rfl rfl (Res.xorB _ rfl rfl rfl) ?_)
  refine WL.stepG 16 true rfl rfl rfl rfl (Stp.callA (args := [_, _]) rfl rfl rfl cal9 rfl rfl (times_ok _ _ _) ?_)
  refine WL.stepG 16 true rfl rfl rfl rfl (Stp.res rfl rfl (Res.move rfl rfl) ?_)
  refine WL.stepG 16 true rfl rfl rfl rfl (Stp.res rfl rfl (Res.move rfl rfl) ?_)
  refine WL.stepG 16 true rfl rfl rfl rfl (Stp.res rfl rfl (Res.move rfl rfl) ?_)
  refine WL.stepG 16 true rfl rfl rfl rfl (Stp.callA (args := [_, _]) rfl rfl rfl cal9 rfl rfl (times_ok _ _ _) ?_)
  refine WL.stepG 16 true rfl rfl rfl rfl (Stp.res rfl rfl (Res.xorB _ rfl rfl rfl) ?_)
  refine WL.stepG 16 true rfl rfl rfl rfl (Stp.res rfl rfl (Res.to (Res.eqlB _ rfl rfl rfl) (Aes.times_xorr a b c)) ?_)
  refine WL.step rfl (Stp.res rfl rfl (Res.pickT rfl rfl rfl) ?_)
  refine WL.step rfl (Stp.res rfl rfl (Res.move rfl rfl) ?_)
  refine WL.stepG 29 true rfl rfl rfl rfl (Stp.res rfl rfl (Res.move rfl rfl) ?_)
  refine WL.stepG 29 true rfl rfl rfl rfl (Stp.res rfl rfl (Res.eqlB 0 rfl rfl rfl) ?_)
  refine WL.stepG 29 true rfl rfl rfl rfl (Stp.res rfl rfl (Res.move rfl rfl) ?_)
  refine WL.stepG 29 true rfl rfl rfl rfl (Stp.res rfl rfl (Res.toF (Res.eqlB 0 rfl rfl rfl) hz) ?_)
  refine WL.stepG 29 true rfl rfl rfl rfl (Stp.res rfl rfl (Res.move rfl rfl) ?_)
  refine WL.stepG 34 false rfl rfl rfl rfl (Stp.res rfl rfl (Res.move rfl rfl) ?_)
  refine WL.stepG 34 false rfl rfl rfl rfl (Stp.res rfl rfl (Res.eqlB 0 rfl rfl rfl) ?_)
  refine WL.stepG 29 true rfl rfl rfl rfl (Stp.res rfl rfl (Res.pickF rfl rfl rfl) ?_)
  refine WL.stepG 29 true rfl rfl rfl rfl (Stp.res rfl rfl (Res.toB (b := (decide (Aes.times a b = 0) == decide (b = 0))) (b' := true) (Res.eqlBool rfl rfl rfl Try.underlying4) (by simp [Aes.times_eq_zero, hz])) ?_)
  refine WL.step rfl (Stp.res rfl rfl (Res.pickT rfl rfl rfl) ?_)
  refine WL.step rfl (Stp.res rfl rfl (Res.move rfl rfl) ?_)
  refine WL.stepG 40 true rfl rfl rfl rfl (Stp.res rfl rfl (Res.move rfl rfl) ?_)
  refine WL.stepG 40 true rfl rfl rfl rfl (Stp.callA (args := [_, byte 1]) rfl rfl rfl cal9 rfl rfl (times_ok _ _ _) ?_)
  refine WL.stepG 40 true rfl rfl rfl rfl (Stp.res rfl rfl (Res.move rfl rfl) ?_)
  refine WL.stepG 40 true rfl rfl rfl rfl (Stp.res rfl rfl (Res.to (Res.eqlB _ rfl rfl rfl) (Aes.times_one a)) ?_)
  refine WL.step rfl (Stp.res rfl rfl (Res.pickT rfl rfl rfl) ?_)
  refine WL.step rfl (Stp.res rfl rfl (Res.assign rfl rfl) ?_)
  refine WL.nil (Thn_n ?_)
  refine CW.ret ?_
  exact fq_tmp rfl rfl ⟨M, hS, PH.le.refl _, Fresh.refl _ _, rfl, rfl⟩
end Go.Proofs.Ytanogodfnfkkbaa
