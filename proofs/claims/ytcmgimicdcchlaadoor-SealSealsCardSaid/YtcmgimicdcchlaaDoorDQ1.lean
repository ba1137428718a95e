/- Own text of this seat (DQ1): lemmas on the way to the statement; no condition of its own. -/
import Derived.Test.YtcmgimicdcchlaaDoorDQ0
set_option linter.unusedVariables false
set_option maxRecDepth 20000
namespace Go.Proofs.YtcmgimicdcchlaaDoor
open Go Go.E
theorem law_seals (v0 v2 v3 : Value) (l0 l2 l3 : List UInt8) (use : Int) (w0 : World) (M : PH) (hM : On M w0) (hgl : GL M) (hv0 : Bs M v0 l0) (hv2 : Bs M v2 l2) (hv3 : Bs M v3 l3) : Ok Tryd.prog 5 #[v0, .int .i64 use, v2, v3] w0 M (fun M' r => M = M' ∧ r = .bool true) := by
  have hS := hM.st
  refine enterB (l := [v0, .int .i64 use, v2, v3]) 91 Tryd.func5 rfl Tryd.ntmps5 rfl ?_
  refine CW.seq ?_
  refine CW.region ?_
  refine WL.step rfl (Stp.res rfl rfl (Res.assign rfl rfl) ?_)
  refine WL.nil (Thn_n ?_)
  refine CW.seq ?_
  refine CW.region ?_
  refine WL.step rfl (Stp.res rfl rfl (Res.move rfl rfl) ?_)
  refine WL.step rfl (Stp.callG (args := [_]) rfl rfl rfl cal15 rfl rfl hS (qshort_ok _ l0 _ _ hS.on hv0) ?_)
  rintro u0 w _ hS _ ⟨rfl, hu0⟩
  refine WL.step rfl (Stp.res rfl rfl (Res.move rfl rfl) ?_)
  refine WL.step rfl (Stp.callG (args := [_]) rfl rfl rfl cal15 rfl rfl hS (qshort_ok _ l2 _ _ hS.on hv2) ?_)
  rintro u2 w _ hS _ ⟨rfl, hu2⟩
  refine WL.step rfl (Stp.res rfl rfl (Res.move rfl rfl) ?_)
  refine WL.step rfl (Stp.callG (args := [_]) rfl rfl rfl cal15 rfl rfl hS (qshort_ok _ l3 _ _ hS.on hv3) ?_)
  rintro u3 w _ hS _ ⟨rfl, hu3⟩
  refine WL.step rfl (Stp.res rfl rfl (Res.assign rfl rfl) ?_)
  refine WL.step rfl (Stp.res rfl rfl (Res.assign rfl rfl) ?_)
  refine WL.step rfl (Stp.res rfl rfl (Res.assign rfl rfl) ?_)
  refine WL.nil (Thn_n ?_)
  refine CW.seq ?_
  refine CW.region ?_
  refine WL.step rfl (Stp.res rfl rfl (Res.move rfl rfl) ?_)
  refine WL.step rfl (Stp.callG (args := [_]) rfl rfl rfl cal16 rfl rfl hS (bytes_ok _ (Seal.shortL l3) _ _ hS.on hu3 (by have := Seal.shortL_len l3; omega)) ?_)
  rintro y1 w M1 hS hG1 hy1
  refine WL.step rfl (Stp.res rfl rfl (Res.assign rfl rfl) ?_)
  refine WL.nil (Thn_n ?_)
  refine CW.seq ?_
  refine CW.region ?_
  refine WL.step rfl (Stp.res rfl rfl (Res.move rfl rfl) ?_)
  refine WL.step rfl (Stp.callG (args := [_]) rfl rfl rfl cal16 rfl rfl hS (bytes_ok _ (Seal.shortL l0) _ _ hS.on (hu0.mono (hG1).1) (by have := Seal.shortL_len l0; omega)) ?_)
  rintro y2 w M2 hS hG2 hy2
  refine WL.step rfl (Stp.res rfl rfl (Res.move rfl rfl) ?_)
  refine WL.step rfl (Stp.res rfl rfl (Res.move rfl rfl) ?_)
  refine WL.step rfl (Stp.callG (args := [_]) rfl rfl rfl cal16 rfl rfl hS (bytes_ok _ (Seal.shortL l2) _ _ hS.on (hu2.mono ((hG1).trans hG2).1) (by have := Seal.shortL_len l2; omega)) ?_)
  rintro y3 w M3 hS hG3 hy3
  refine WL.step rfl (Stp.res rfl rfl (Res.move rfl rfl) ?_)
  refine WL.step rfl (Stp.callG (args := [_, _, _, _]) rfl rfl rfl cal12 rfl rfl hS (seal_all _ _ _ (Seal.shortL l0) (Seal.shortL l2) (Seal.shortL l3) use _ _ hS.on (hgl.mono (((hG1).trans hG2).trans hG3).1) (hy2.mono (hG3).1) hy3 (hy1.mono ((hG2).trans hG3).1)) ?_)
  rintro _ w M4 hS hG4 ⟨s4, rfl, hs4⟩
  refine WL.step rfl (Stp.res rfl rfl (Res.move rfl rfl) ?_)
  refine WL.step rfl (Stp.res rfl rfl (Res.extract (l := [_, _]) rfl rfl rfl) ?_)
  refine WL.step rfl (Stp.res rfl rfl (Res.extract (l := [_, _]) rfl rfl rfl) ?_)
  refine WL.step rfl (Stp.res rfl rfl (Res.assign rfl rfl) ?_)
  refine WL.step rfl (Stp.res rfl rfl (Res.assign rfl rfl) ?_)
  refine WL.nil (Thn_n ?_)
  refine CW.seq ?_
  refine CW.region ?_
  refine WL.step rfl (Stp.res rfl rfl (Res.move rfl rfl) ?_)
  refine WL.step rfl (Stp.res rfl rfl (Res.move rfl rfl) ?_)
  refine WL.step rfl (Stp.res rfl rfl (Res.move rfl rfl) ?_)
  refine WL.step rfl (Stp.res rfl rfl (Res.move rfl rfl) ?_)
  refine WL.step rfl (Stp.callG (args := [_, _, _, _]) rfl rfl rfl cal17 rfl rfl hS (qseal_all _ _ _ (Seal.shortL l0) (Seal.shortL l2) (Seal.shortL l3) use _ _ hS.on (hu0.mono ((((hG1).trans hG2).trans hG3).trans hG4).1) (hu2.mono ((((hG1).trans hG2).trans hG3).trans hG4).1) (hu3.mono ((((hG1).trans hG2).trans hG3).trans hG4).1)) ?_)
  rintro _ w M5 hS hG5 ⟨s5, rfl, hs5⟩
  refine WL.step rfl (Stp.res rfl rfl (Res.move rfl rfl) ?_)
  refine WL.step rfl (Stp.res rfl rfl (Res.extract (l := [_, _]) rfl rfl rfl) ?_)
  refine WL.step rfl (Stp.res rfl rfl (Res.extract (l := [_, _]) rfl rfl rfl) ?_)
  refine WL.step rfl (Stp.res rfl rfl (Res.assign rfl rfl) ?_)
  refine WL.step rfl (Stp.res rfl rfl (Res.assign rfl rfl) ?_)
  refine WL.nil (Thn_n ?_)
  refine CW.seq ?_
  refine CW.region ?_
  refine WL.step rfl (Stp.res rfl rfl (Res.move rfl rfl) ?_)
  refine WL.step rfl (Stp.res rfl rfl (Res.move rfl rfl) ?_)
  refine WL.step rfl (Stp.callG (args := [_, _]) rfl rfl rfl cal18 rfl rfl hS (Keys_all _ (Seal.shortL l0) use _ _ hS.on (hgl.mono (((((hG1).trans hG2).trans hG3).trans hG4).trans hG5).1) (hu0.mono (((((hG1).trans hG2).trans hG3).trans hG4).trans hG5).1)) ?_)
  rintro _ w M6 hS hG6 ⟨p6, q6, rfl, hp6, hq6⟩
  refine WL.step rfl (Stp.res rfl rfl (Res.move rfl rfl) ?_)
  refine WL.step rfl (Stp.res rfl rfl (Res.extract (l := [_, _, _]) rfl rfl rfl) ?_)
  refine WL.step rfl (Stp.res rfl rfl (Res.extract (l := [_, _, _]) rfl rfl rfl) ?_)
  refine WL.step rfl (Stp.res rfl rfl (Res.extract (l := [_, _, _]) rfl rfl rfl) ?_)
  refine WL.step rfl (Stp.res rfl rfl (Res.assign rfl rfl) ?_)
  refine WL.step rfl (Stp.res rfl rfl (Res.assign rfl rfl) ?_)
  refine WL.step rfl (Stp.res rfl rfl (Res.assign rfl rfl) ?_)
  refine WL.nil (Thn_n ?_)
  refine CW.seq ?_
  refine CW.region ?_
  refine WL.step rfl (Stp.res rfl rfl (Res.move rfl rfl) ?_)
  refine WL.step rfl (Stp.res rfl rfl (Res.move rfl rfl) ?_)
  refine WL.step rfl (Stp.callG (args := [_, _]) rfl rfl rfl cal19 rfl rfl hS (qkeys_all _ (Seal.shortL l0) use _ _ hS.on (hu0.mono ((((((hG1).trans hG2).trans hG3).trans hG4).trans hG5).trans hG6).1)) ?_)
  rintro _ w M7 hS hG7 ⟨p7, q7, rfl, hp7, hq7⟩
  refine WL.step rfl (Stp.res rfl rfl (Res.move rfl rfl) ?_)
  refine WL.step rfl (Stp.res rfl rfl (Res.extract (l := [_, _, _]) rfl rfl rfl) ?_)
  refine WL.step rfl (Stp.res rfl rfl (Res.extract (l := [_, _, _]) rfl rfl rfl) ?_)
  refine WL.step rfl (Stp.res rfl rfl (Res.extract (l := [_, _, _]) rfl rfl rfl) ?_)
  refine WL.step rfl (Stp.res rfl rfl (Res.assign rfl rfl) ?_)
  refine WL.step rfl (Stp.res rfl rfl (Res.assign rfl rfl) ?_)
  refine WL.step rfl (Stp.res rfl rfl (Res.assign rfl rfl) ?_)
  refine WL.nil (Thn_n ?_)
  refine CW.seq ?_
  refine CW.region ?_
  refine WL.step rfl (Stp.res rfl rfl (Res.move rfl rfl) ?_)
  refine WL.step rfl (Stp.res rfl rfl (Res.move rfl rfl) ?_)
  refine WL.step rfl (Stp.callA (args := [_, _]) rfl rfl rfl cal14 rfl rfl (samebytes_t _ _ _ _ M7 _ hS.on (hs4.mono (((hG5).trans hG6).trans hG7).1) (hs5.mono ((hG6).trans hG7).1) rfl) ?_)
  refine WL.step rfl (Stp.res rfl rfl (Res.move rfl rfl) ?_)
  refine WL.stepG 3 true rfl rfl rfl rfl (Stp.res rfl rfl (Res.move rfl rfl) ?_)
  refine WL.stepG 3 true rfl rfl rfl rfl (Stp.res rfl rfl (Res.move rfl rfl) ?_)
  refine WL.stepG 3 true rfl rfl rfl rfl (Stp.res rfl rfl (Res.to (Res.eql rfl rfl rfl) (by rfl)) ?_)
  refine WL.step rfl (Stp.res rfl rfl (Res.pickT rfl rfl rfl) ?_)
  refine WL.step rfl (Stp.res rfl rfl (Res.move rfl rfl) ?_)
  refine WL.stepG 8 true rfl rfl rfl rfl (Stp.res rfl rfl (Res.move rfl rfl) ?_)
  refine WL.stepG 8 true rfl rfl rfl rfl (Stp.res rfl rfl (Res.move rfl rfl) ?_)
  refine WL.stepG 8 true rfl rfl rfl rfl (Stp.callA (args := [_, _]) rfl rfl rfl cal14 rfl rfl (samebytes_t _ _ _ _ M7 _ hS.on (hp6.mono (hG7).1) hp7 rfl) ?_)
  refine WL.step rfl (Stp.res rfl rfl (Res.pickT rfl rfl rfl) ?_)
  refine WL.step rfl (Stp.res rfl rfl (Res.move rfl rfl) ?_)
  refine WL.stepG 13 true rfl rfl rfl rfl (Stp.res rfl rfl (Res.move rfl rfl) ?_)
  refine WL.stepG 13 true rfl rfl rfl rfl (Stp.res rfl rfl (Res.move rfl rfl) ?_)
  refine WL.stepG 13 true rfl rfl rfl rfl (Stp.callA (args := [_, _]) rfl rfl rfl cal14 rfl rfl (samebytes_t _ _ _ _ M7 _ hS.on (hq6.mono (hG7).1) hq7 rfl) ?_)
  refine WL.step rfl (Stp.res rfl rfl (Res.pickT rfl rfl rfl) ?_)
  refine WL.step rfl (Stp.res rfl rfl (Res.move rfl rfl) ?_)
  refine WL.stepG 18 true rfl rfl rfl rfl (Stp.res rfl rfl (Res.move rfl rfl) ?_)
  refine WL.stepG 18 true rfl rfl rfl rfl (Stp.res rfl rfl (Res.move rfl rfl) ?_)
  refine WL.stepG 18 true rfl rfl rfl rfl (Stp.res rfl rfl (Res.to (Res.eql rfl rfl rfl) (by rfl)) ?_)
  refine WL.step rfl (Stp.res rfl rfl (Res.pickT rfl rfl rfl) ?_)
  refine WL.step rfl (Stp.res rfl rfl (Res.move rfl rfl) ?_)
  refine WL.stepG 23 true rfl rfl rfl rfl (Stp.res rfl rfl (Res.move rfl rfl) ?_)
  refine WL.stepG 23 true rfl rfl rfl rfl (Stp.res rfl rfl (Res.move rfl rfl) ?_)
  refine WL.stepG 23 true rfl rfl rfl rfl (Stp.callA (args := [_, _]) rfl rfl rfl cal14 rfl rfl (samebytes_t _ _ _ _ M7 _ hS.on (hy1.mono ((((((hG2).trans hG3).trans hG4).trans hG5).trans hG6).trans hG7).1) (hu3.mono (((((((hG1).trans hG2).trans hG3).trans hG4).trans hG5).trans hG6).trans hG7).1) rfl) ?_)
  refine WL.step rfl (Stp.res rfl rfl (Res.pickT rfl rfl rfl) ?_)
  refine WL.step rfl (Stp.res rfl rfl (Res.move rfl rfl) ?_)
  refine WL.stepG 28 true rfl rfl rfl rfl (Stp.callG (args := []) rfl rfl rfl cal10 rfl rfl hS (works_ok _ _ hS.on (hgl.mono (((((((hG1).trans hG2).trans hG3).trans hG4).trans hG5).trans hG6).trans hG7).1)) ?_)
  rintro _ w M8 hS hG8 rfl
  refine WL.step rfl (Stp.res rfl rfl (Res.pickT rfl rfl rfl) ?_)
  refine WL.step rfl (Stp.res rfl rfl (Res.assign rfl rfl) ?_)
  refine WL.nil (Thn_n ?_)
  refine CW.ret ?_
  exact fq_tmp rfl rfl ⟨M, hS.known ((((((((hG1).trans hG2).trans hG3).trans hG4).trans hG5).trans hG6).trans hG7).trans hG8).1, PH.le.refl _, Fresh.refl _ _, rfl, rfl⟩
end Go.Proofs.YtcmgimicdcchlaaDoor
