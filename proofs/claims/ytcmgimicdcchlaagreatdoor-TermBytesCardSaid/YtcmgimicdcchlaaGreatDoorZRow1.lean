/- Lemmas on the way to the statement; no condition of its own. -/
import Derived.Test.YtcmgimicdcchlaaGreatDoorRows
import Derived.Test.YtcmgimicdcchlaaGreatDoorCards
import Derived.Test.YtcmgimicdcchlaaGreatDoorTie
import Derived.LaidMore
import Derived.Stop.Joined
import Derived.SevenTiedAt
import Derived.Test.YtcmgimicdcchlaaGreatDoorZLaidG
import Derived.Test.YtcmgimicdcchlaaGreatDoorQE3
import Derived.Test.YtcmgimicdcchlaaGreatDoorZLaidE
import Derived.Test.YtcmgimicdcchlaaGreatDoorZHG
namespace Go.Proofs.YtcmgimicdcchlaaGreatDoor.lawBytes
open Go.Proofs.Tryz
open Go Go.E Go.ChangeShapes Go.WideShapes Go.ChangeAt Go.RowKit
set_option linter.unusedVariables false
theorem own : ownKnob Tryz.prog.godebug = none := by kernel_rfl
theorem laidOut : laidOutB Tryz.prog = true := by kernel_rfl
noncomputable def tfs : Array Field := match Tryz.prog.underlying 35 with | some (.struct fs) => fs | _ => #[]
noncomputable def tty : TermTy Tryz.prog 35 where
  f := fun i => tfs[i]?.getD default
  e := 5
  str5 := by kernel_rfl
  c1 := by kernel_rfl
  off := fun i hi => by
    rcases (by omega : i = 0 ∨ i = 1 ∨ i = 2 ∨ i = 3 ∨ i = 4) with rfl | rfl | rfl | rfl | rfl <;> kernel_rfl
  one := fun i hi => by
    rcases (by omega : i = 0 ∨ i = 1 ∨ i = 2 ∨ i = 3 ∨ i = 4) with rfl | rfl | rfl | rfl | rfl <;> kernel_rfl
  h0 := by kernel_rfl
  h1 := by kernel_rfl
  he := by kernel_rfl
  hc := by kernel_rfl
  h2 := by kernel_rfl
  h3 := by kernel_rfl
  h4 := by kernel_rfl
theorem door_met (os : Os) (args : Array Value) : laidMetH Tryz.prog Rows.termBytesRow.laid ((World.doorLaid Tryz.prog 400 os).forCall (fun _ _ => 0) ⟨#[], args, []⟩).memory :=
  laidMetH_of_parts3 (fuel := 8) (laidMet_of_run' 8 (by kernel_rfl) (by kernel_rfl)) (by kernel_rfl) (by kernel_rfl)
set_option maxRecDepth 100000 in
theorem lifted (os : Os) (started : os.Started) (H : Type) (enc : TypeId × Value → H) :
    ReturnsInHanded {} Tryz.checked os 4 .any (fun w args => (Rows.termBytesSpec.pre enc Tryz.prog Tryz.f4 [] false w args ∧ laidMetH Tryz.prog Rows.termBytesRow.laid w) ∧ sizedMet enc Tryz.prog Tryz.f4 (OpenSpec.ofChange Rows.termBytesSpec) false w args)
      (Rows.termBytesSpec.post enc Tryz.prog Tryz.f4 false true false false) := by
  refine returnsInHanded_of_change_and (C := Tryz.checked) (X := fun w _ => laidMetH Tryz.prog Rows.termBytesRow.laid w) (fun _ _ _ hh h => h.of_heap hh) own started (by kernel_rfl) func4
    (ChangeSpec.witness_shaped (enc := enc) (C := Tryz.checked) (os := os) (X := fun w _ => laidMetH Tryz.prog Rows.termBytesRow.laid w) false (World.doorLaid Tryz.prog 400 os) #[.agg #[.int .i64 0, .slice none 0 0, Go.E.str [], .int .i64 0, .slice none 0 0], .agg #[.int .i64 0, .slice none 0 0, Go.E.str [], .int .i64 0, .slice none 0 0]] 8 rfl (World.shaped_of_RefB (by kernel_rfl) (by kernel_rfl)) (by kernel_rfl) (by kernel_rfl) (by kernel_rfl) (door_met os _)) ?_
  intro W base args ds gs before hval0 hW _ _ hL _
  have hgl : GL (PH.all W) := gl_laid hL
  have hge : GE (PH.all W) := ge_laid hL
  have hval : ∀ (j : Nat) t v, Tryz.f4.params[j]? = some t → args[j]? = some v → Value.okWide Tryz.prog W .any base t v := hval0
  have hW' := hW
  obtain ⟨p, q, hA0, hV, rfl, hfz, hnd⟩ := hW
  have hA : DataW.TrodAll enc Tryz.prog W 0 (fun _ => true) true Tryz.f4.params.toList args.toList ds p := hA0
  rw [params4] at hA hval
  obtain ⟨v0, vs0, d0, ds0, p0, q0, hargs, rfl, rfl, h0, r0⟩ := trodAll_cons hA
  obtain ⟨v1, vs1, d1, ds1, p1, q1, rfl, rfl, rfl, h1, r1⟩ := trodAll_cons r0
  obtain ⟨rfl, rfl, rfl⟩ := trodAll_nil r1
  obtain rfl : args = #[v0, v1] := by cases args; simp_all
  obtain ⟨rfl, rfl⟩ := trodVars_none hV
  have k0 := h0
  have lt0 : ∀ x ∈ p0, x.block < W.heap.size := by obtain ⟨m, hm⟩ := k0; exact DataW.trod_lt m _ _ _ hm
  obtain ⟨u0, da0, dc0, la0, lc0, rfl, hb0, hs0⟩ := row_term tty (hval 0 35 v0 rfl rfl) h0
  have k1 := h1
  have lt1 : ∀ x ∈ p1, x.block < W.heap.size := by obtain ⟨m, hm⟩ := k1; exact DataW.trod_lt m _ _ _ hm
  obtain ⟨u1, da1, dc1, la1, lc1, rfl, hb1, hs1⟩ := row_term tty (hval 1 35 v1 rfl rfl) h1
  clear hA0 hval0
  have hlaw : Ok Tryz.prog 4 #[.agg (TV u0 da0 dc0 la0 lc0), .agg (TV u1 da1 dc1 la1 lc1)] W (PH.all W) (fun M' r => PH.all W = M' ∧ r = .bool true) := by
    exact (law_tbytes u0 u1 _ _ _ _ _ _ _ _ W _ (PH.on W) hgl hge hb0 hs0 hb1 hs1).drop
  refine hlaw.mono fun e W' ⟨v, M', he, hst, _, _, _, hv⟩ => ?_
  subst hv
  subst he
  have bel := hst.below
  exact ⟨_, rfl, _, _, _, [], _, [], hW', trodAll_mk1 (shut_bool underlying4 _), (trodAll_cons_mk (Below.trod laidOut (by kernel_rfl) (of_decide_eq_true (by kernel_rfl)) k0 bel lt0) (trodAll_cons_mk (Below.trod laidOut (by kernel_rfl) (of_decide_eq_true (by kernel_rfl)) k1 bel lt1) trodAll_mk0)), rfl, bel.frame _, fun h => by cases h⟩
theorem over : Rows.termBytesRow.holds Tryz.pinned (OpenSpec.ofChange Rows.termBytesSpec) :=
  OpenClaim.holds_of_wide 4 Tryz.f4 rfl rfl rfl rfl rfl rfl rfl ⟨rfl, rfl, rfl, rfl, rfl⟩ rfl rfl rfl rfl rfl (by kernel_rfl) func4 (by kernel_rfl)
    (of_decide_eq_true (by kernel_rfl)) (by unfold Func.isWrapper; first | (rw [if_pos (by decide +kernel)]; kernel_rfl) | (rw [if_neg (by decide +kernel)]; exact ⟨rfl, rfl⟩))
    (fun os started H enc _ => lifted os started H enc)
theorem proved : Rows.TermBytesCardSaid :=
  Claim7.holds_tied_plain_at .later [] [.data, .data, .data, .data, .handle] true (true, "570360c7a13d003eb0457c4552b3f8f50edc25455b7b637042eabf5b95df793c") true
    over (fun _ h => by cases h) (by kernel_rfl) (fun _ h => by cases h) termBytes_row_tie rfl ⟨rfl, rfl⟩ (by kernel_rfl) rfl
    (fun f fn hf hfn => by
      obtain rfl : f = 4 := Option.some.inj ((show Tryz.prog.funcNamed "seneschal/seneschallaw29.TermBytes" = some 4 by kernel_rfl).symm.trans hf) |>.symm
      obtain rfl : fn = Tryz.f4 := (Option.some.inj (func4.symm.trans hfn)).symm
      exact ⟨by kernel_rfl, fun j t ht => by
        rw [params4] at ht
        rcases j with _ | _ | j
        · have h3 : t = 35 := by simpa using ht.symm
          subst h3; exact (show Tryz.prog.wantsStandIn 35 = false by kernel_rfl)
        · have h3 : t = 35 := by simpa using ht.symm
          subst h3; exact (show Tryz.prog.wantsStandIn 35 = false by kernel_rfl)
        · simp at ht⟩)
    (by kernel_rfl)
#print axioms proved
end Go.Proofs.YtcmgimicdcchlaaGreatDoor.lawBytes
