/- Own text of this seat (ZL4): lemmas on the way to the statement; no condition of its own. -/
import Derived.Test.YtcmgimicdcchlaaGreatDoorZL1
set_option linter.unusedVariables false
set_option maxRecDepth 20000
namespace Go.Proofs.YtcmgimicdcchlaaGreatDoor
open Go Go.E
theorem bytes_own (v : Value) (l : List UInt8) (w0 : World) (M : PH) (hM : On M w0) (hl : Bs M v l) (hlen : l.length ≤ 140737488355328) (h0 : 0 < l.length) : Ok Tryz.prog 36 #[v] w0 M (fun M' r => ∃ b rest cap, M b = none ∧ w0.heap.size ≤ b ∧ M' b = some (.cells (Gb l rest) 5 (0, 0)) ∧ l.length + rest.length = cap ∧ cap ≤ 9223372036854775807 ∧ r = .slice (some ⟨b, 0, none⟩) l.length cap) := by
  have hS := hM.st
  refine enterB (l := [v]) 6 Tryz.func36 rfl Tryz.ntmps36 rfl ?_
  refine CW.seq ?_
  refine CW.region ?_
  refine WL.step rfl (Stp.res rfl rfl (Res.assign rfl rfl) ?_)
  refine WL.nil (Thn_n ?_)
  refine CW.seq ?_
  refine CW.region ?_
  refine WL.step rfl (Stp.lit (vals := []) (cs := bs []) (e := 5) rfl rfl (fun _ => by kernel_rfl) rfl rfl hS ?_)
  intro b3 w hb3 hS hkp hnw
  refine WL.step rfl (Stp.res rfl rfl (Res.move rfl rfl) ?_)
  refine WL.step rfl (Stp.appendB (l := []) (r := l) rfl rfl rfl rfl et30 (Src.ofBs Tryz.underlying30 hS hl) hS (OwnB.of hb3 (Nat.le_refl 0) (by omega) [] rfl rfl) (by simpa using hlen) rfl rfl ?_)
  intro v' w g' hS hown
  change OwnB w0.heap.size g' v' l 5 at hown
  obtain ⟨ob, rest, cp, hob, rfl, rfl, hc1, hc2⟩ := hown.gb h0
  change St w0 w M [(ob, .cells (Gb l rest) 5 (0, 0))] at hS
  refine WL.step rfl (Stp.res rfl rfl (Res.assign rfl rfl) ?_)
  refine WL.nil (Thn_n ?_)
  refine CW.ret ?_
  have hF := hS.freezeG (i := 0) rfl hob
  exact fq_tmp rfl rfl ⟨_, hF.1, hF.2.1, hF.2.2, ob, rest, cp, (Fresh.refl M 0).none w0 hM hob, hob, PH.add_self _ _ _, hc1, hc2, rfl⟩
end Go.Proofs.YtcmgimicdcchlaaGreatDoor
