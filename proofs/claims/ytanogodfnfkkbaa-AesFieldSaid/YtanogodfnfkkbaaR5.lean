/- Own text of this seat (R5): lemmas on the way to the statement; no condition of its own. -/
import Derived.Test.YtanogodfnfkkbaaR4
set_option linter.unusedVariables false
namespace Go.Proofs.Ytanogodfnfkkbaa
open Go Go.E
theorem law_field (x y : UInt8) (w0 : World) (M : PH) (hM : On M w0)  : Ok Try.prog 4 #[byte x, byte y] w0 M (fun M' r => M = M' ∧ r = .bool true) := by
  have hS := hM.st
  refine enterB (l := [byte x, byte y]) 31 Try.func4 rfl Try.ntmps4 rfl ?_
  refine CW.seq ?_
  refine CW.region ?_
  refine WL.step rfl (Stp.res rfl rfl (Res.assign rfl rfl) ?_)
  refine WL.nil (Thn_n ?_)
  refine CW.seq ?_
  have hS := hS.drew
  have hK0 : True := trivial
  refine CW.held (fun _ => True) mixed ?_
  refine AL.take 0 rfl (by kernel_rfl) (by kernel_rfl) (by kernel_rfl) rfl rfl rfl hK0 (fun w hK => Res.move rfl rfl) ?_
  refine AL.take 2 rfl (by kernel_rfl) (by kernel_rfl) (by kernel_rfl) rfl rfl rfl hK0 (fun w hK => Res.move rfl rfl) ?_
  refine AL.one 1 rfl (by kernel_rfl) rfl (Stp.callG (args := [_]) rfl rfl rfl cal10 rfl rfl hS (substitute_ok _ _ _ hS.on) ?_)
  rintro _ w _ hS _ ⟨rfl, rfl⟩
  have hK0 : True := trivial
  refine ⟨hK0, ?_⟩
  refine AL.one 3 rfl (by kernel_rfl) rfl (Stp.callA (args := [_]) rfl rfl rfl cal11 rfl rfl (rsub_ok _ _) ?_)
  have hK0 : True := trivial
  refine ⟨hK0, ?_⟩
  refine AL.take 4 rfl (by kernel_rfl) (by kernel_rfl) (by kernel_rfl) rfl rfl rfl hK0 (fun w hK => Res.to (Res.eqlB _ rfl rfl rfl) rfl) ?_
  refine AL.take 5 rfl (by kernel_rfl) (by kernel_rfl) (by kernel_rfl) rfl rfl rfl hK0 (fun w hK => Res.move rfl rfl) ?_
  refine AL.takeG 6 5 true rfl (by kernel_rfl) (by kernel_rfl) (by kernel_rfl) rfl rfl rfl rfl rfl rfl hK0 (fun w hK => Res.move rfl rfl) ?_
  refine AL.takeG 7 5 true rfl (by kernel_rfl) (by kernel_rfl) (by kernel_rfl) rfl rfl rfl rfl rfl rfl hK0 (fun w hK => Res.move rfl rfl) ?_
  refine AL.takeG 9 5 true rfl (by kernel_rfl) (by kernel_rfl) (by kernel_rfl) rfl rfl rfl rfl rfl rfl hK0 (fun w hK => Res.move rfl rfl) ?_
  refine AL.takeG 10 5 true rfl (by kernel_rfl) (by kernel_rfl) (by kernel_rfl) rfl rfl rfl rfl rfl rfl hK0 (fun w hK => Res.move rfl rfl) ?_
  refine AL.oneG 8 5 true rfl (by kernel_rfl) rfl rfl rfl rfl (Stp.callA (args := [_, _]) rfl rfl rfl cal9 rfl rfl (times_ok _ _ _) ?_)
  have hK0 : True := trivial
  refine ⟨hK0, ?_⟩
  refine AL.oneG 11 5 true rfl (by kernel_rfl) rfl rfl rfl rfl (Stp.callA (args := [_, _]) rfl rfl rfl cal12 rfl rfl (rtimes_ok _ _ _) ?_)
  have hK0 : True := trivial
  refine ⟨hK0, ?_⟩
  refine AL.takeG 12 5 true rfl (by kernel_rfl) (by kernel_rfl) (by kernel_rfl) rfl rfl rfl rfl rfl rfl hK0 (fun w hK => Res.to (Res.eqlB _ rfl rfl rfl) rfl) ?_
  refine AL.take 13 rfl (by kernel_rfl) (by kernel_rfl) (by kernel_rfl) rfl rfl rfl hK0 (fun w hK => Res.pickT rfl rfl rfl) ?_
  refine AL.take 14 rfl (by kernel_rfl) (by kernel_rfl) (by kernel_rfl) rfl rfl rfl hK0 (fun w hK => Res.move rfl rfl) ?_
  refine AL.takeG 16 14 true rfl (by kernel_rfl) (by kernel_rfl) (by kernel_rfl) rfl rfl rfl rfl rfl rfl hK0 (fun w hK => Res.move rfl rfl) ?_
  refine AL.takeG 19 14 true rfl (by kernel_rfl) (by kernel_rfl) (by kernel_rfl) rfl rfl rfl rfl rfl rfl hK0 (fun w hK => Res.move rfl rfl) ?_
  refine AL.oneG 15 14 true rfl (by kernel_rfl) rfl rfl rfl rfl (Stp.callG (args := []) rfl rfl rfl cal13 rfl rfl hS (rtable_ok _ _ hS.on) ?_)
  rintro _ w M1 hS hG1 ht
  obtain ⟨tb, to_, tc, rfl, tc1, tc2, tcell⟩ := ht.at (by rw [Aes.boxL_len]; omega)
  have hK0 : True := trivial
  refine ⟨hK0, ?_⟩
  refine AL.takeG 17 14 true rfl (by kernel_rfl) (by kernel_rfl) (by kernel_rfl) rfl rfl rfl rfl rfl rfl hK0 (fun w hK => Res.idxS1 (k := x.toNat) rfl rfl rfl Try.underlying26 sz5 (Int.toNat_natCast _) ⟨Int.natCast_nonneg _, by rw [Aes.boxL_len]; exact Int.ofNat_lt.2 (UInt8.toNat_lt _)⟩) ?_
  refine AL.twoG 18 20 rfl rfl (by kernel_rfl) (Wan.of 14 true rfl rfl rfl rfl) (Wan.of 14 true rfl rfl rfl rfl) ?_ ?_
  · refine Stp.res rfl rfl (Res.load1 (v := byte (Aes.sub x)) rfl rfl Try.underlying5 rfl (hS.cell (tcell _ (by rw [Aes.boxL_len]; exact UInt8.toNat_lt _)))) ?_
    refine ⟨hK0, ?_⟩
    refine AL.oneG 20 14 true rfl (by kernel_rfl) rfl rfl rfl rfl (Stp.callA (args := [_]) rfl rfl rfl cal11 rfl rfl (rsub_ok _ _) ?_)
    have hK0 : True := trivial
    refine ⟨hK0, ?_⟩
    refine AL.takeG 21 14 true rfl (by kernel_rfl) (by kernel_rfl) (by kernel_rfl) rfl rfl rfl rfl rfl rfl hK0 (fun w hK => Res.to (Res.eqlB _ rfl rfl rfl) rfl) ?_
    refine AL.take 22 rfl (by kernel_rfl) (by kernel_rfl) (by kernel_rfl) rfl rfl rfl hK0 (fun w hK => Res.pickT rfl rfl rfl) ?_
    refine AL.take 23 rfl (by kernel_rfl) (by kernel_rfl) (by kernel_rfl) rfl rfl rfl hK0 (fun w hK => Res.move rfl rfl) ?_
    refine AL.oneG 24 23 true rfl (by kernel_rfl) rfl rfl rfl rfl (Stp.callG (args := []) rfl rfl rfl cal8 rfl rfl hS (works_ok _ _ hS.on) ?_)
    rintro _ w _ hS _ ⟨rfl, rfl⟩
    have hK0 : True := trivial
    refine ⟨hK0, ?_⟩
    refine AL.take 25 rfl (by kernel_rfl) (by kernel_rfl) (by kernel_rfl) rfl rfl rfl hK0 (fun w hK => Res.pickT rfl rfl rfl) ?_
    refine AL.take 26 rfl (by kernel_rfl) (by kernel_rfl) (by kernel_rfl) rfl rfl rfl hK0 (fun w hK => Res.assign rfl rfl) ?_
    refine AL.done (by kernel_rfl) (Thn_n ?_)
    refine CW.ret ?_
    exact fq_tmp rfl rfl ⟨M, hS.known hG1.1, PH.le.refl _, Fresh.refl _ _, rfl, rfl⟩
  · refine Stp.callA (args := [_]) rfl rfl rfl cal11 rfl rfl (rsub_ok _ _) ?_
    have hK0 : True := trivial
    refine ⟨hK0, ?_⟩
    refine AL.oneG 18 14 true rfl (by kernel_rfl) rfl rfl rfl rfl (Stp.res rfl rfl (Res.load1 (v := byte (Aes.sub x)) rfl rfl Try.underlying5 rfl (hS.cell (tcell _ (by rw [Aes.boxL_len]; exact UInt8.toNat_lt _)))) ?_)
    refine ⟨hK0, ?_⟩
    refine AL.takeG 21 14 true rfl (by kernel_rfl) (by kernel_rfl) (by kernel_rfl) rfl rfl rfl rfl rfl rfl hK0 (fun w hK => Res.to (Res.eqlB _ rfl rfl rfl) rfl) ?_
    refine AL.take 22 rfl (by kernel_rfl) (by kernel_rfl) (by kernel_rfl) rfl rfl rfl hK0 (fun w hK => Res.pickT rfl rfl rfl) ?_
    refine AL.take 23 rfl (by kernel_rfl) (by kernel_rfl) (by kernel_rfl) rfl rfl rfl hK0 (fun w hK => Res.move rfl rfl) ?_
    refine AL.oneG 24 23 true rfl (by kernel_rfl) rfl rfl rfl rfl (Stp.callG (args := []) rfl rfl rfl cal8 rfl rfl hS (works_ok _ _ hS.on) ?_)
    rintro _ w _ hS _ ⟨rfl, rfl⟩
    have hK0 : True := trivial
    refine ⟨hK0, ?_⟩
    refine AL.take 25 rfl (by kernel_rfl) (by kernel_rfl) (by kernel_rfl) rfl rfl rfl hK0 (fun w hK => Res.pickT rfl rfl rfl) ?_
    refine AL.take 26 rfl (by kernel_rfl) (by kernel_rfl) (by kernel_rfl) rfl rfl rfl hK0 (fun w hK => Res.assign rfl rfl) ?_
    refine AL.done (by kernel_rfl) (Thn_n ?_)
    refine CW.ret ?_
    exact fq_tmp rfl rfl ⟨M, hS.known hG1.1, PH.le.refl _, Fresh.refl _ _, rfl, rfl⟩
end Go.Proofs.Ytanogodfnfkkbaa
