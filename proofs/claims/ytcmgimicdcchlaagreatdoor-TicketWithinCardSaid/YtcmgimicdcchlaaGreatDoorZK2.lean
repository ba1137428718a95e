/- Own text of this seat (ZK2): lemmas on the way to the statement; no condition of its own. -/
import Derived.Test.YtcmgimicdcchlaaGreatDoorRows
import Derived.Test.YtcmgimicdcchlaaGreatDoorCards
import Derived.Test.YtcmgimicdcchlaaGreatDoorTie
import Derived.LaidMore
import Derived.Stop.Joined
import Derived.SevenTiedAt
import Derived.Test.YtcmgimicdcchlaaGreatDoorZLaid
import Derived.Test.YtcmgimicdcchlaaGreatDoorZV7
import Derived.Test.YtcmgimicdcchlaaGreatDoorEngR
namespace Go.Proofs.YtcmgimicdcchlaaGreatDoor.lawWithin
open Go Go.E Go.ChangeShapes Go.WideShapes Go.ChangeAt Go.RowKit
set_option linter.unusedVariables false
theorem own : ownKnob Tryz.prog.godebug = none := by kernel_rfl
theorem laidOut : laidOutB Tryz.prog = true := by kernel_rfl
theorem cells3 : Tryz.prog.cellsOf 3 = 1 := by kernel_rfl
theorem cells9 : Tryz.prog.cellsOf 9 = 1 := by kernel_rfl
theorem cells57 : Tryz.prog.cellsOf 57 = 7 := by kernel_rfl
theorem cells67 : Tryz.prog.cellsOf 67 = 3 := by kernel_rfl
theorem door_met (os : Os) (args : Array Value) : laidMetH Tryz.prog Rows.ticketWithinRow.laid ((World.doorLaid Tryz.prog 400 os).forCall (fun _ _ => 0) ⟨#[], args, []⟩).memory :=
  laidMetH_of_parts3 (fuel := 8) (laidMet_of_run' 8 (by kernel_rfl) (by kernel_rfl)) (by kernel_rfl) (by kernel_rfl)
set_option maxRecDepth 100000 in
theorem lifted (os : Os) (started : os.Started) (H : Type) (enc : TypeId × Value → H) :
    ReturnsInHanded {} Tryz.checked os 9 .any (fun w args => (Rows.ticketWithinSpec.pre enc Tryz.prog Tryz.f9 [] false w args ∧ laidMetH Tryz.prog Rows.ticketWithinRow.laid w) ∧ sizedMet enc Tryz.prog Tryz.f9 (OpenSpec.ofChange Rows.ticketWithinSpec) false w args)
      (Rows.ticketWithinSpec.post enc Tryz.prog Tryz.f9 false true false false) := by
  refine returnsInHanded_of_change_and (C := Tryz.checked) (X := fun w _ => laidMetH Tryz.prog Rows.ticketWithinRow.laid w) (fun _ _ _ hh h => h.of_heap hh) own started (by kernel_rfl) Tryz.func9
    (ChangeSpec.witness_shaped (enc := enc) (C := Tryz.checked) (os := os) (X := fun w _ => laidMetH Tryz.prog Rows.ticketWithinRow.laid w) false (World.doorLaid Tryz.prog 400 os) #[.agg #[Go.E.str [], Go.E.str [], .slice none 0 0, .int .i64 0, .int .i64 0, .int .i64 0, .int .i64 0], .agg #[Go.E.str [], .int .i64 0, .int .i64 0], Go.E.str [], .int .i64 0, .int .i64 0] 8 rfl (World.shaped_of_RefB (by kernel_rfl) (by kernel_rfl)) (by kernel_rfl) (by kernel_rfl) (by kernel_rfl) (door_met os _)) ?_
  intro W base args ds gs before hval0 hW _ _ hL _
  have hgl : GL (PH.all W) := gl_laid hL
  have hval : ∀ (j : Nat) t v, Tryz.f9.params[j]? = some t → args[j]? = some v → Value.okWide Tryz.prog W .any base t v := hval0
  have hW' := hW
  obtain ⟨p, q, hA0, hV, rfl, hfz, hnd⟩ := hW
  have hA : DataW.TrodAll enc Tryz.prog W 0 (fun _ => true) true Tryz.f9.params.toList args.toList ds p := hA0
  rw [Tryz.params9] at hA hval
  obtain ⟨v0, vs0, d0, ds0, p0, q0, hargs, rfl, rfl, h0, r0⟩ := trodAll_cons hA
  obtain ⟨v1, vs1, d1, ds1, p1, q1, rfl, rfl, rfl, h1, r1⟩ := trodAll_cons r0
  obtain ⟨v2, vs2, d2, ds2, p2, q2, rfl, rfl, rfl, h2, r2⟩ := trodAll_cons r1
  obtain ⟨v3, vs3, d3, ds3, p3, q3, rfl, rfl, rfl, h3, r3⟩ := trodAll_cons r2
  obtain ⟨v4, vs4, d4, ds4, p4, q4, rfl, rfl, rfl, h4, r4⟩ := trodAll_cons r3
  obtain ⟨rfl, rfl, rfl⟩ := trodAll_nil r4
  obtain rfl : args = #[v0, v1, v2, v3, v4] := by cases args; simp_all
  obtain ⟨rfl, rfl⟩ := trodVars_none hV
  have k0 := h0
  have lt0 : ∀ x ∈ p0, x.block < W.heap.size := by obtain ⟨m, hm⟩ := k0; exact DataW.trod_lt m _ _ _ hm
  obtain ⟨cs0, rfl, hsz0⟩ := row_struct Tryz.underlying57 cells57 (hval 0 57 v0 rfl rfl)
  obtain ⟨fc0, gc0⟩ := row_fieldS (i := 0) Tryz.underlying57 rfl Tryz.underlying9 cells9 h0
  obtain ⟨fs0, gs0⟩ := row_fieldS (i := 1) Tryz.underlying57 rfl Tryz.underlying9 cells9 h0
  obtain ⟨fk0, gk0⟩ : ∃ x, cs0[2]? = some x := ⟨_, Array.getElem?_eq_getElem (by omega)⟩
  obtain ⟨ff0, gf0, wf0⟩ := row_fieldI (i := 3) Tryz.underlying57 rfl Tryz.underlying3 cells3 h0
  have bf0 := i64_of wf0
  obtain ⟨fu0, gu0, wu0⟩ := row_fieldI (i := 4) Tryz.underlying57 rfl Tryz.underlying3 cells3 h0
  have bu0 := i64_of wu0
  obtain ⟨fe0, ge0, we0⟩ := row_fieldI (i := 5) Tryz.underlying57 rfl Tryz.underlying3 cells3 h0
  have be0 := i64_of we0
  obtain ⟨fl0, gl0, wl0⟩ := row_fieldI (i := 6) Tryz.underlying57 rfl Tryz.underlying3 cells3 h0
  have bl0 := i64_of wl0
  obtain rfl := seven hsz0 gc0 gs0 gk0 gf0 gu0 ge0 gl0
  have k1 := h1
  have lt1 : ∀ x ∈ p1, x.block < W.heap.size := by obtain ⟨m, hm⟩ := k1; exact DataW.trod_lt m _ _ _ hm
  obtain ⟨cs1, rfl, hsz1⟩ := row_struct Tryz.underlying67 cells67 (hval 1 67 v1 rfl rfl)
  obtain ⟨fc1, gc1⟩ := row_fieldS (i := 0) Tryz.underlying67 rfl Tryz.underlying9 cells9 h1
  obtain ⟨ft1, gt1, wt1⟩ := row_fieldI (i := 1) Tryz.underlying67 rfl Tryz.underlying3 cells3 h1
  have bt1 := i64_of wt1
  obtain ⟨fn1, gn1, wn1⟩ := row_fieldI (i := 2) Tryz.underlying67 rfl Tryz.underlying3 cells3 h1
  have bn1 := i64_of wn1
  obtain rfl := three' hsz1 gc1 gt1 gn1
  have k2 := h2
  have lt2 : ∀ x ∈ p2, x.block < W.heap.size := by obtain ⟨m, hm⟩ := k2; exact DataW.trod_lt m _ _ _ hm
  obtain ⟨l2, e2⟩ := row_str Tryz.underlying9 h2 (hval 2 9 v2 rfl rfl)
  subst e2
  have k3 := h3
  have lt3 : ∀ x ∈ p3, x.block < W.heap.size := by obtain ⟨m, hm⟩ := k3; exact DataW.trod_lt m _ _ _ hm
  obtain ⟨a3, e3, _, _, w3⟩ := open_int Tryz.underlying3 (hval 3 3 v3 rfl rfl) h3
  subst e3
  have ha3 := i64_of w3
  have k4 := h4
  have lt4 : ∀ x ∈ p4, x.block < W.heap.size := by obtain ⟨m, hm⟩ := k4; exact DataW.trod_lt m _ _ _ hm
  obtain ⟨a4, e4, _, _, w4⟩ := open_int Tryz.underlying3 (hval 4 3 v4 rfl rfl) h4
  subst e4
  have ha4 := i64_of w4
  clear hA0 hval0
  have hlaw : Ok Tryz.prog 9 #[.agg #[Go.E.str fc0, Go.E.str fs0, fk0, .int .i64 ff0, .int .i64 fu0, .int .i64 fe0, .int .i64 fl0], .agg #[Go.E.str fc1, .int .i64 ft1, .int .i64 fn1], Go.E.str l2, .int .i64 a3, .int .i64 a4] W (PH.all W) (fun M' r => PH.all W = M' ∧ r = .bool true) := by
    exact law_within fc0 fs0 fc1 l2 fk0 ff0 fu0 fe0 fl0 ft1 fn1 a3 a4 W _ (PH.on W) hgl bf0 bu0 bt1 ha3 ha4
  refine hlaw.mono fun e W' ⟨v, M', he, hst, _, _, _, hv⟩ => ?_
  subst hv
  subst he
  have bel := hst.below
  exact ⟨_, rfl, _, _, _, [], _, [], hW', trodAll_mk1 (shut_bool Tryz.underlying4 _), (trodAll_cons_mk (Below.trod laidOut (by kernel_rfl) (of_decide_eq_true (by kernel_rfl)) k0 bel lt0) (trodAll_cons_mk (Below.trod laidOut (by kernel_rfl) (of_decide_eq_true (by kernel_rfl)) k1 bel lt1) (trodAll_cons_mk (Below.trod laidOut (by kernel_rfl) (of_decide_eq_true (by kernel_rfl)) k2 bel lt2) (trodAll_cons_mk (Below.trod laidOut (by kernel_rfl) (of_decide_eq_true (by kernel_rfl)) k3 bel lt3) (trodAll_cons_mk (Below.trod laidOut (by kernel_rfl) (of_decide_eq_true (by kernel_rfl)) k4 bel lt4) trodAll_mk0))))), rfl, bel.frame _, fun h => by cases h⟩
theorem over : Rows.ticketWithinRow.holds Tryz.pinned (OpenSpec.ofChange Rows.ticketWithinSpec) :=
  OpenClaim.holds_of_wide 9 Tryz.f9 rfl rfl rfl rfl rfl rfl rfl ⟨rfl, rfl, rfl, rfl, rfl⟩ rfl rfl rfl rfl rfl (by kernel_rfl) Tryz.func9 (by kernel_rfl)
    (of_decide_eq_true (by kernel_rfl)) (by unfold Func.isWrapper; first | (rw [if_pos (by decide +kernel)]; kernel_rfl) | (rw [if_neg (by decide +kernel)]; exact ⟨rfl, rfl⟩))
    (fun os started H enc _ => lifted os started H enc)
theorem proved : Rows.TicketWithinCardSaid :=
  Claim7.holds_tied_plain_at .later [] [.data, .data, .data, .data, .handle] true (true, "570360c7a13d003eb0457c4552b3f8f50edc25455b7b637042eabf5b95df793c") true
    over (fun _ h => by cases h) (by kernel_rfl) (fun _ h => by cases h) ticketWithin_row_tie rfl ⟨rfl, rfl⟩ (by kernel_rfl) rfl
    (fun f fn hf hfn => by
      obtain rfl : f = 9 := Option.some.inj ((show Tryz.prog.funcNamed "seneschal/seneschallaw20.TicketWithin" = some 9 by kernel_rfl).symm.trans hf) |>.symm
      obtain rfl : fn = Tryz.f9 := (Option.some.inj (Tryz.func9.symm.trans hfn)).symm
      exact ⟨by kernel_rfl, fun j t ht => by
        rw [Tryz.params9] at ht
        rcases j with _ | _ | _ | _ | _ | j
        · have h3 : t = 57 := by simpa using ht.symm
          subst h3; exact (show Tryz.prog.wantsStandIn 57 = false by kernel_rfl)
        · have h3 : t = 67 := by simpa using ht.symm
          subst h3; exact (show Tryz.prog.wantsStandIn 67 = false by kernel_rfl)
        · have h3 : t = 9 := by simpa using ht.symm
          subst h3; exact (show Tryz.prog.wantsStandIn 9 = false by kernel_rfl)
        · have h3 : t = 3 := by simpa using ht.symm
          subst h3; exact (show Tryz.prog.wantsStandIn 3 = false by kernel_rfl)
        · have h3 : t = 3 := by simpa using ht.symm
          subst h3; exact (show Tryz.prog.wantsStandIn 3 = false by kernel_rfl)
        · simp at ht⟩)
    (by kernel_rfl)
#print axioms proved
end Go.Proofs.YtcmgimicdcchlaaGreatDoor.lawWithin
