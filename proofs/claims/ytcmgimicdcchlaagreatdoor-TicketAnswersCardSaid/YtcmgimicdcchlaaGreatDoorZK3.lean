/- Own text of this seat (ZK3): lemmas on the way to the statement; no condition of its own. -/
import Derived.Test.YtcmgimicdcchlaaGreatDoorRows
import Derived.Test.YtcmgimicdcchlaaGreatDoorCards
import Derived.Test.YtcmgimicdcchlaaGreatDoorTie
import Derived.LaidMore
import Derived.Stop.Joined
import Derived.SevenTiedAt
import Derived.Test.YtcmgimicdcchlaaGreatDoorZLaid
import Derived.Test.YtcmgimicdcchlaaGreatDoorQY
import Derived.Test.YtcmgimicdcchlaaGreatDoorEngR
namespace Go.Proofs.YtcmgimicdcchlaaGreatDoor.lawAnswers
open Go Go.E Go.ChangeShapes Go.WideShapes Go.ChangeAt Go.RowKit
set_option linter.unusedVariables false
theorem own : ownKnob Tryz.prog.godebug = none := by kernel_rfl
theorem laidOut : laidOutB Tryz.prog = true := by kernel_rfl
theorem cells3 : Tryz.prog.cellsOf 3 = 1 := by kernel_rfl
theorem cells5 : Tryz.prog.cellsOf 5 = 1 := by kernel_rfl
theorem cells9 : Tryz.prog.cellsOf 9 = 1 := by kernel_rfl
theorem cells67 : Tryz.prog.cellsOf 67 = 3 := by kernel_rfl
theorem cells78 : Tryz.prog.cellsOf 78 = 16 := by kernel_rfl
theorem door_met (os : Os) (args : Array Value) : laidMetH Tryz.prog Rows.ticketAnswersRow.laid ((World.doorLaid Tryz.prog 400 os).forCall (fun _ _ => 0) ⟨#[], args, []⟩).memory :=
  laidMetH_of_parts3 (fuel := 8) (laidMet_of_run' 8 (by kernel_rfl) (by kernel_rfl)) (by kernel_rfl) (by kernel_rfl)
set_option maxRecDepth 100000 in
theorem lifted (os : Os) (started : os.Started) (H : Type) (enc : TypeId × Value → H) :
    ReturnsInHanded {} Tryz.checked os 12 .any (fun w args => (Rows.ticketAnswersSpec.pre enc Tryz.prog Tryz.f12 [] false w args ∧ laidMetH Tryz.prog Rows.ticketAnswersRow.laid w) ∧ sizedMet enc Tryz.prog Tryz.f12 (OpenSpec.ofChange Rows.ticketAnswersSpec) false w args)
      (Rows.ticketAnswersSpec.post enc Tryz.prog Tryz.f12 false true false false) := by
  refine returnsInHanded_of_change_and (C := Tryz.checked) (X := fun w _ => laidMetH Tryz.prog Rows.ticketAnswersRow.laid w) (fun _ _ _ hh h => h.of_heap hh) own started (by kernel_rfl) Tryz.func12
    (ChangeSpec.witness_shaped (enc := enc) (C := Tryz.checked) (os := os) (X := fun w _ => laidMetH Tryz.prog Rows.ticketAnswersRow.laid w) false (World.doorLaid Tryz.prog 400 os) #[.agg (bs (List.replicate 16 0)), .agg (bs (List.replicate 16 0)), .agg #[Go.E.str [], .int .i64 0, .int .i64 0], .agg #[Go.E.str [], .int .i64 0, .int .i64 0]] 8 rfl (World.shaped_of_RefB (by kernel_rfl) (by kernel_rfl)) (by kernel_rfl) (by kernel_rfl) (by kernel_rfl) (door_met os _)) ?_
  intro W base args ds gs before hval0 hW _ _ hL _
  have hgl : GL (PH.all W) := gl_laid hL
  have hval : ∀ (j : Nat) t v, Tryz.f12.params[j]? = some t → args[j]? = some v → Value.okWide Tryz.prog W .any base t v := hval0
  have hW' := hW
  obtain ⟨p, q, hA0, hV, rfl, hfz, hnd⟩ := hW
  have hA : DataW.TrodAll enc Tryz.prog W 0 (fun _ => true) true Tryz.f12.params.toList args.toList ds p := hA0
  rw [Tryz.params12] at hA hval
  obtain ⟨v0, vs0, d0, ds0, p0, q0, hargs, rfl, rfl, h0, r0⟩ := trodAll_cons hA
  obtain ⟨v1, vs1, d1, ds1, p1, q1, rfl, rfl, rfl, h1, r1⟩ := trodAll_cons r0
  obtain ⟨v2, vs2, d2, ds2, p2, q2, rfl, rfl, rfl, h2, r2⟩ := trodAll_cons r1
  obtain ⟨v3, vs3, d3, ds3, p3, q3, rfl, rfl, rfl, h3, r3⟩ := trodAll_cons r2
  obtain ⟨rfl, rfl, rfl⟩ := trodAll_nil r3
  obtain rfl : args = #[v0, v1, v2, v3] := by cases args; simp_all
  obtain ⟨rfl, rfl⟩ := trodVars_none hV
  have k0 := h0
  have lt0 : ∀ x ∈ p0, x.block < W.heap.size := by obtain ⟨m, hm⟩ := k0; exact DataW.trod_lt m _ _ _ hm
  obtain ⟨l0, hl0, e0⟩ := row_arr Tryz.underlying78 Tryz.underlying5 cells5 cells78 (hval 0 78 v0 rfl rfl) h0
  subst e0
  have k1 := h1
  have lt1 : ∀ x ∈ p1, x.block < W.heap.size := by obtain ⟨m, hm⟩ := k1; exact DataW.trod_lt m _ _ _ hm
  obtain ⟨l1, hl1, e1⟩ := row_arr Tryz.underlying78 Tryz.underlying5 cells5 cells78 (hval 1 78 v1 rfl rfl) h1
  subst e1
  have k2 := h2
  have lt2 : ∀ x ∈ p2, x.block < W.heap.size := by obtain ⟨m, hm⟩ := k2; exact DataW.trod_lt m _ _ _ hm
  obtain ⟨cs2, rfl, hsz2⟩ := row_struct Tryz.underlying67 cells67 (hval 2 67 v2 rfl rfl)
  obtain ⟨fc2, gc2⟩ := row_fieldS (i := 0) Tryz.underlying67 rfl Tryz.underlying9 cells9 h2
  obtain ⟨ft2, gt2, wt2⟩ := row_fieldI (i := 1) Tryz.underlying67 rfl Tryz.underlying3 cells3 h2
  have bt2 := i64_of wt2
  obtain ⟨fn2, gn2, wn2⟩ := row_fieldI (i := 2) Tryz.underlying67 rfl Tryz.underlying3 cells3 h2
  have bn2 := i64_of wn2
  obtain rfl := three' hsz2 gc2 gt2 gn2
  have k3 := h3
  have lt3 : ∀ x ∈ p3, x.block < W.heap.size := by obtain ⟨m, hm⟩ := k3; exact DataW.trod_lt m _ _ _ hm
  obtain ⟨cs3, rfl, hsz3⟩ := row_struct Tryz.underlying67 cells67 (hval 3 67 v3 rfl rfl)
  obtain ⟨fc3, gc3⟩ := row_fieldS (i := 0) Tryz.underlying67 rfl Tryz.underlying9 cells9 h3
  obtain ⟨ft3, gt3, wt3⟩ := row_fieldI (i := 1) Tryz.underlying67 rfl Tryz.underlying3 cells3 h3
  have bt3 := i64_of wt3
  obtain ⟨fn3, gn3, wn3⟩ := row_fieldI (i := 2) Tryz.underlying67 rfl Tryz.underlying3 cells3 h3
  have bn3 := i64_of wn3
  obtain rfl := three' hsz3 gc3 gt3 gn3
  clear hA0 hval0
  have hlaw : Ok Tryz.prog 12 #[.agg (bs l0), .agg (bs l1), .agg #[Go.E.str fc2, .int .i64 ft2, .int .i64 fn2], .agg #[Go.E.str fc3, .int .i64 ft3, .int .i64 fn3]] W (PH.all W) (fun M' r => PH.all W = M' ∧ r = .bool true) := by
    exact (law_answers l0 l1 fc2 fc3 ft2 fn2 ft3 fn3 W _ (PH.on W) hgl hl0 hl1 bt2 bn2 bt3 bn3).drop
  refine hlaw.mono fun e W' ⟨v, M', he, hst, _, _, _, hv⟩ => ?_
  subst hv
  subst he
  have bel := hst.below
  exact ⟨_, rfl, _, _, _, [], _, [], hW', trodAll_mk1 (shut_bool Tryz.underlying4 _), (trodAll_cons_mk (Below.trod laidOut (by kernel_rfl) (of_decide_eq_true (by kernel_rfl)) k0 bel lt0) (trodAll_cons_mk (Below.trod laidOut (by kernel_rfl) (of_decide_eq_true (by kernel_rfl)) k1 bel lt1) (trodAll_cons_mk (Below.trod laidOut (by kernel_rfl) (of_decide_eq_true (by kernel_rfl)) k2 bel lt2) (trodAll_cons_mk (Below.trod laidOut (by kernel_rfl) (of_decide_eq_true (by kernel_rfl)) k3 bel lt3) trodAll_mk0)))), rfl, bel.frame _, fun h => by cases h⟩
theorem over : Rows.ticketAnswersRow.holds Tryz.pinned (OpenSpec.ofChange Rows.ticketAnswersSpec) :=
  OpenClaim.holds_of_wide 12 Tryz.f12 rfl rfl rfl rfl rfl rfl rfl ⟨rfl, rfl, rfl, rfl, rfl⟩ rfl rfl rfl rfl rfl (by kernel_rfl) Tryz.func12 (by kernel_rfl)
    (of_decide_eq_true (by kernel_rfl)) (by unfold Func.isWrapper; first | (rw [if_pos (by decide +kernel)]; kernel_rfl) | (rw [if_neg (by decide +kernel)]; exact ⟨rfl, rfl⟩))
    (fun os started H enc _ => lifted os started H enc)
theorem proved : Rows.TicketAnswersCardSaid :=
  Claim7.holds_tied_plain_at .later [] [.data, .data, .data, .data, .handle] true (true, "570360c7a13d003eb0457c4552b3f8f50edc25455b7b637042eabf5b95df793c") true
    over (fun _ h => by cases h) (by kernel_rfl) (fun _ h => by cases h) ticketAnswers_row_tie rfl ⟨rfl, rfl⟩ (by kernel_rfl) rfl
    (fun f fn hf hfn => by
      obtain rfl : f = 12 := Option.some.inj ((show Tryz.prog.funcNamed "seneschal/seneschallaw20.TicketAnswers" = some 12 by kernel_rfl).symm.trans hf) |>.symm
      obtain rfl : fn = Tryz.f12 := (Option.some.inj (Tryz.func12.symm.trans hfn)).symm
      exact ⟨by kernel_rfl, fun j t ht => by
        rw [Tryz.params12] at ht
        rcases j with _ | _ | _ | _ | j
        · have h3 : t = 78 := by simpa using ht.symm
          subst h3; exact (show Tryz.prog.wantsStandIn 78 = false by kernel_rfl)
        · have h3 : t = 78 := by simpa using ht.symm
          subst h3; exact (show Tryz.prog.wantsStandIn 78 = false by kernel_rfl)
        · have h3 : t = 67 := by simpa using ht.symm
          subst h3; exact (show Tryz.prog.wantsStandIn 67 = false by kernel_rfl)
        · have h3 : t = 67 := by simpa using ht.symm
          subst h3; exact (show Tryz.prog.wantsStandIn 67 = false by kernel_rfl)
        · simp at ht⟩)
    (by kernel_rfl)
#print axioms proved
end Go.Proofs.YtcmgimicdcchlaaGreatDoor.lawAnswers
