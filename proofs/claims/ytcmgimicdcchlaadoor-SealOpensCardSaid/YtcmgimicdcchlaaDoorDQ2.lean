/- Own text of this seat (DQ2): lemmas on the way to the statement; no condition of its own. -/
import Derived.Test.YtcmgimicdcchlaaDoorDQ1
set_option linter.unusedVariables false
set_option maxRecDepth 20000
namespace Go.Proofs.YtcmgimicdcchlaaDoor
open Go Go.E
theorem law_opens (v0 v2 : Value) (l0 l2 : List UInt8) (use : Int) (w0 : World) (M : PH) (hM : On M w0) (hgl : GL M) (hv0 : Bs M v0 l0) (hv2 : Bs M v2 l2) : Ok Tryd.prog 6 #[v0, .int .i64 use, v2] w0 M (fun M' r => M = M' ∧ r = .bool true) := by
  have hS := hM.st
  refine enterB (l := [v0, .int .i64 use, v2]) 77 Tryd.func6 rfl Tryd.ntmps6 rfl ?_
  refine CW.seq ?_
  refine CW.region ?_
  refine WL.step rfl (Stp.res rfl rfl (Res.assign rfl rfl) ?_)
  refine WL.nil (Thn_n ?_)
  refine CW.seq ?_
  refine CW.region ?_
  refine WL.step rfl (Stp.res rfl rfl (Res.move rfl rfl) ?_)
  refine WL.step rfl (Stp.callG (args := [_]) rfl rfl rfl cal15 rfl rfl hS (qshort_ok _ l0 _ _ hS.on hv0) ?_)
  rintro u0 w _ hS _ ⟨rfl, hu0⟩
  refine WL.step rfl (Stp.res rfl rfl (Res.move rfl rfl) ?_)
  refine WL.step rfl (Stp.callG (args := [_]) rfl rfl rfl cal15 rfl rfl hS (qshort_ok _ l2 _ _ hS.on hv2) ?_)
  rintro u2 w _ hS _ ⟨rfl, hu2⟩
  refine WL.step rfl (Stp.res rfl rfl (Res.assign rfl rfl) ?_)
  refine WL.step rfl (Stp.res rfl rfl (Res.assign rfl rfl) ?_)
  refine WL.nil (Thn_n ?_)
  refine CW.seq ?_
  refine CW.region ?_
  refine WL.step rfl (Stp.res rfl rfl (Res.move rfl rfl) ?_)
  refine WL.step rfl (Stp.callG (args := [_]) rfl rfl rfl cal16 rfl rfl hS (bytes_ok _ (Seal.shortL l2) _ _ hS.on hu2 (by have := Seal.shortL_len l2; omega)) ?_)
  rintro y1 w M1 hS hG1 hy1
  refine WL.step rfl (Stp.res rfl rfl (Res.assign rfl rfl) ?_)
  refine WL.nil (Thn_n ?_)
  refine CW.seq ?_
  refine CW.region ?_
  refine WL.step rfl (Stp.res rfl rfl (Res.move rfl rfl) ?_)
  refine WL.step rfl (Stp.callG (args := [_]) rfl rfl rfl cal16 rfl rfl hS (bytes_ok _ (Seal.shortL l0) _ _ hS.on (hu0.mono (hG1).1) (by have := Seal.shortL_len l0; omega)) ?_)
  rintro y2 w M2 hS hG2 hy2
  refine WL.step rfl (Stp.res rfl rfl (Res.move rfl rfl) ?_)
  refine WL.step rfl (Stp.res rfl rfl (Res.move rfl rfl) ?_)
  refine WL.step rfl (Stp.callG (args := [_, _, _]) rfl rfl rfl cal13 rfl rfl hS (open_all _ _ (Seal.shortL l0) (Seal.shortL l2) use _ _ hS.on (hgl.mono ((hG1).trans hG2).1) hy2 (hy1.mono (hG2).1)) ?_)
  rintro _ w M3 hS hG3 ⟨s3, rfl, hs3⟩
  refine WL.step rfl (Stp.res rfl rfl (Res.move rfl rfl) ?_)
  refine WL.step rfl (Stp.res rfl rfl (Res.extract (l := [_, _]) rfl rfl rfl) ?_)
  refine WL.step rfl (Stp.res rfl rfl (Res.extract (l := [_, _]) rfl rfl rfl) ?_)
  refine WL.step rfl (Stp.res rfl rfl (Res.assign rfl rfl) ?_)
  refine WL.step rfl (Stp.res rfl rfl (Res.assign rfl rfl) ?_)
  refine WL.nil (Thn_n ?_)
  refine CW.seq ?_
  refine CW.region ?_
  refine WL.step rfl (Stp.res rfl rfl (Res.move rfl rfl) ?_)
  refine WL.step rfl (Stp.res rfl rfl (Res.move rfl rfl) ?_)
  refine WL.step rfl (Stp.res rfl rfl (Res.move rfl rfl) ?_)
  refine WL.step rfl (Stp.callG (args := [_, _, _]) rfl rfl rfl cal20 rfl rfl hS (qopen_all _ _ (Seal.shortL l0) (Seal.shortL l2) use _ _ hS.on (hu0.mono (((hG1).trans hG2).trans hG3).1) (hu2.mono (((hG1).trans hG2).trans hG3).1)) ?_)
  rintro _ w M4 hS hG4 ⟨s4, rfl, hs4⟩
  refine WL.step rfl (Stp.res rfl rfl (Res.move rfl rfl) ?_)
  refine WL.step rfl (Stp.res rfl rfl (Res.extract (l := [_, _]) rfl rfl rfl) ?_)
  refine WL.step rfl (Stp.res rfl rfl (Res.extract (l := [_, _]) rfl rfl rfl) ?_)
  refine WL.step rfl (Stp.res rfl rfl (Res.assign rfl rfl) ?_)
  refine WL.step rfl (Stp.res rfl rfl (Res.assign rfl rfl) ?_)
  refine WL.nil (Thn_n ?_)
  refine CW.seq ?_
  refine CW.region ?_
  refine WL.step rfl (Stp.res rfl rfl (Res.move rfl rfl) ?_)
  refine WL.step rfl (Stp.res rfl rfl (Res.move rfl rfl) ?_)
  refine WL.step rfl (Stp.res rfl rfl (Res.move rfl rfl) ?_)
  refine WL.step rfl (Stp.callG (args := [_, _, _]) rfl rfl rfl cal21 rfl rfl hS (tag_all _ _ (Seal.shortL l0) (Seal.shortL l2) use _ _ hS.on (hgl.mono ((((hG1).trans hG2).trans hG3).trans hG4).1) (hu0.mono ((((hG1).trans hG2).trans hG3).trans hG4).1) (hy1.mono (((hG2).trans hG3).trans hG4).1) (by have := Seal.shortL_len l2; omega)) ?_)
  rintro _ w M5 hS hG5 ⟨s5, rfl, hs5⟩
  refine WL.step rfl (Stp.res rfl rfl (Res.move rfl rfl) ?_)
  refine WL.step rfl (Stp.res rfl rfl (Res.extract (l := [_, _]) rfl rfl rfl) ?_)
  refine WL.step rfl (Stp.res rfl rfl (Res.extract (l := [_, _]) rfl rfl rfl) ?_)
  refine WL.step rfl (Stp.res rfl rfl (Res.assign rfl rfl) ?_)
  refine WL.step rfl (Stp.res rfl rfl (Res.assign rfl rfl) ?_)
  refine WL.nil (Thn_n ?_)
  refine CW.seq ?_
  refine CW.region ?_
  refine WL.step rfl (Stp.res rfl rfl (Res.move rfl rfl) ?_)
  refine WL.step rfl (Stp.res rfl rfl (Res.move rfl rfl) ?_)
  refine WL.step rfl (Stp.res rfl rfl (Res.move rfl rfl) ?_)
  refine WL.step rfl (Stp.callG (args := [_, _, _]) rfl rfl rfl cal22 rfl rfl hS (qtag_all _ _ (Seal.shortL l0) (Seal.shortL l2) use _ _ hS.on (hu0.mono (((((hG1).trans hG2).trans hG3).trans hG4).trans hG5).1) (hu2.mono (((((hG1).trans hG2).trans hG3).trans hG4).trans hG5).1) (by have := Seal.shortL_len l2; omega)) ?_)
  rintro _ w M6 hS hG6 ⟨s6, rfl, hs6⟩
  refine WL.step rfl (Stp.res rfl rfl (Res.move rfl rfl) ?_)
  refine WL.step rfl (Stp.res rfl rfl (Res.extract (l := [_, _]) rfl rfl rfl) ?_)
  refine WL.step rfl (Stp.res rfl rfl (Res.extract (l := [_, _]) rfl rfl rfl) ?_)
  refine WL.step rfl (Stp.res rfl rfl (Res.assign rfl rfl) ?_)
  refine WL.step rfl (Stp.res rfl rfl (Res.assign rfl rfl) ?_)
  refine WL.nil (Thn_n ?_)
  refine CW.seq ?_
  refine CW.region ?_
  refine WL.step rfl (Stp.res rfl rfl (Res.move rfl rfl) ?_)
  refine WL.step rfl (Stp.res rfl rfl (Res.move rfl rfl) ?_)
  refine WL.step rfl (Stp.callA (args := [_, _]) rfl rfl rfl cal14 rfl rfl (samebytes_t _ _ _ _ M6 _ hS.on (hs3.mono (((hG4).trans hG5).trans hG6).1) (hs4.mono ((hG5).trans hG6).1) rfl) ?_)
  refine WL.step rfl (Stp.res rfl rfl (Res.move rfl rfl) ?_)
  refine WL.stepG 3 true rfl rfl rfl rfl (Stp.res rfl rfl (Res.move rfl rfl) ?_)
  refine WL.stepG 3 true rfl rfl rfl rfl (Stp.res rfl rfl (Res.move rfl rfl) ?_)
  refine WL.stepG 3 true rfl rfl rfl rfl (Stp.res rfl rfl (Res.to (Res.eql rfl rfl rfl) (by rfl)) ?_)
  refine WL.step rfl (Stp.res rfl rfl (Res.pickT rfl rfl rfl) ?_)
  refine WL.step rfl (Stp.res rfl rfl (Res.move rfl rfl) ?_)
  refine WL.stepG 8 true rfl rfl rfl rfl (Stp.res rfl rfl (Res.move rfl rfl) ?_)
  refine WL.stepG 8 true rfl rfl rfl rfl (Stp.res rfl rfl (Res.move rfl rfl) ?_)
  refine WL.stepG 8 true rfl rfl rfl rfl (Stp.callA (args := [_, _]) rfl rfl rfl cal14 rfl rfl (samebytes_t _ _ _ _ M6 _ hS.on (hs5.mono (hG6).1) hs6 rfl) ?_)
  refine WL.step rfl (Stp.res rfl rfl (Res.pickT rfl rfl rfl) ?_)
  refine WL.step rfl (Stp.res rfl rfl (Res.move rfl rfl) ?_)
  refine WL.stepG 13 true rfl rfl rfl rfl (Stp.res rfl rfl (Res.move rfl rfl) ?_)
  refine WL.stepG 13 true rfl rfl rfl rfl (Stp.res rfl rfl (Res.move rfl rfl) ?_)
  refine WL.stepG 13 true rfl rfl rfl rfl (Stp.res rfl rfl (Res.to (Res.eql rfl rfl rfl) (by rfl)) ?_)
  refine WL.step rfl (Stp.res rfl rfl (Res.pickT rfl rfl rfl) ?_)
  refine WL.step rfl (Stp.res rfl rfl (Res.move rfl rfl) ?_)
  refine WL.stepG 18 true rfl rfl rfl rfl (Stp.res rfl rfl (Res.move rfl rfl) ?_)
  refine WL.stepG 18 true rfl rfl rfl rfl (Stp.res rfl rfl (Res.move rfl rfl) ?_)
  refine WL.stepG 18 true rfl rfl rfl rfl (Stp.callA (args := [_, _]) rfl rfl rfl cal14 rfl rfl (samebytes_t _ _ _ _ M6 _ hS.on (hy1.mono (((((hG2).trans hG3).trans hG4).trans hG5).trans hG6).1) (hu2.mono ((((((hG1).trans hG2).trans hG3).trans hG4).trans hG5).trans hG6).1) rfl) ?_)
  refine WL.step rfl (Stp.res rfl rfl (Res.pickT rfl rfl rfl) ?_)
  refine WL.step rfl (Stp.res rfl rfl (Res.move rfl rfl) ?_)
  refine WL.stepG 23 true rfl rfl rfl rfl (Stp.callG (args := []) rfl rfl rfl cal10 rfl rfl hS (works_ok _ _ hS.on (hgl.mono ((((((hG1).trans hG2).trans hG3).trans hG4).trans hG5).trans hG6).1)) ?_)
  rintro _ w M7 hS hG7 rfl
  refine WL.step rfl (Stp.res rfl rfl (Res.pickT rfl rfl rfl) ?_)
  refine WL.step rfl (Stp.res rfl rfl (Res.assign rfl rfl) ?_)
  refine WL.nil (Thn_n ?_)
  refine CW.ret ?_
  exact fq_tmp rfl rfl ⟨M, hS.known (((((((hG1).trans hG2).trans hG3).trans hG4).trans hG5).trans hG6).trans hG7).1, PH.le.refl _, Fresh.refl _ _, rfl, rfl⟩
end Go.Proofs.YtcmgimicdcchlaaDoor
