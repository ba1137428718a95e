/- The engine: a region that draws its order and whose last operation writes what its own loads have read. -/
import Derived.Test.YtanogodfnfkkbaaEng8
set_option linter.unusedVariables false
namespace Go.E
open Go
section
variable {P : Program} {ops : Array Oper} {C : Exit → Act → World → Prop} {S : World → Prop} {z : List Nat}
/-- number d waits for number i -/
def waitsB (ops : Array Oper) (i : Nat) : Nat → Nat → Bool
  | 0, _ => false
  | f + 1, d => match ops[d]? with
    | some o => o.after.any fun e => Region.binds .any e && (decide (e.on = i) || waitsB ops i f e.on)
    | none => false
def shutAt (ops : Array Oper) (listed : Array Bool) (j : Nat) : Bool := match ops[j]? with
  | some o => o.after.all fun e => !Region.binds .any e || listed.getD e.on false
  | none => true
def shutB (ops : Array Oper) (listed : Array Bool) : Bool := (List.range ops.size).all fun j => !listed.getD j false || shutAt ops listed j
def ShutL (ops : Array Oper) (listed : Array Bool) : Prop := ∀ j o, ops[j]? = some o → listed.getD j false = true → ∀ e ∈ o.after, Region.binds .any e = true → listed.getD e.on false = true
theorem shutB_spec {listed : Array Bool} (h : shutB ops listed = true) : ShutL ops listed := fun j o hj hl e he hb => by
  have hlt : j < ops.size := (Array.getElem?_eq_some_iff.1 hj).1
  have h1 := List.all_eq_true.1 h j (List.mem_range.2 hlt)
  simp only [hl, Bool.not_true, Bool.false_or, shutAt, hj] at h1
  have h2 := Array.all_eq_true_iff_forall_mem.1 h1 e he
  simpa [hb] using h2
theorem ShutL.set {listed : Array Bool} {i : Nat} (h : ShutL ops listed) (hi : i ∈ Region.ready .any ops listed) : ShutL ops (listed.setIfInBounds i true) := fun j o hj hl e he hb => by
  obtain ⟨_, oi, hoi, hall⟩ := mem_ready.1 hi
  by_cases hij : i = j
  · subst hij
    obtain rfl : o = oi := Option.some.inj (hj.symm.trans hoi)
    exact getD_set_true (hall e he hb)
  · rw [getD_set_ne false hij] at hl
    exact getD_set_true (h j o hj hl e he hb)
theorem waits_listed {listed : Array Bool} {i : Nat} (hc : ShutL ops listed) : ∀ (f d : Nat), waitsB ops i f d = true → (∀ o, ops[d]? = some o → ∀ e ∈ o.after, Region.binds .any e = true → listed.getD e.on false = true) → listed.getD i false = true
  | 0, _, h, _ => by simp [waitsB] at h
  | f + 1, d, h, hl => by
    unfold waitsB at h
    cases ho : ops[d]? with
    | none => rw [ho] at h; simp at h
    | some o =>
      rw [ho] at h
      obtain ⟨e, he, h1⟩ := Array.any_eq_true'.1 h
      simp only [Bool.and_eq_true, Bool.or_eq_true, decide_eq_true_eq] at h1
      have hle := hl o ho e he h1.1
      rcases h1.2 with h2 | h2
      · rw [← h2]; exact hle
      · exact waits_listed hc f e.on h2 fun o' ho' => hc e.on o' ho' hle
theorem unlisted {listed : Array Bool} {i : Nat} (h : listed.getD i true = false) : listed.getD i false = false := by
  rcases Nat.lt_or_ge i listed.size with h' | h'
  · simp [h'] at h ⊢; exact h
  · simp [Array.getElem?_eq_none h'] at h
/-- whatever order is picked; S holds behind each operation but those of z -/
def anyZ (P : Program) (ops : Array Oper) (C : Exit → Act → World → Prop) (S : World → Prop) (z : List Nat) : Nat → Array Bool → Act → World → Prop
  | 0, listed, a, w => Region.ready .any ops listed = [] ∧ C .normal a w
  | f + 1, listed, a, w => (Region.ready .any ops listed = [] → C .normal a w) ∧
    ∀ i ∈ Region.ready .any ops listed, wpOp P ops C i (fun a' w' => (i ∉ z → S w') ∧ anyZ P ops C S z f (listed.setIfInBounds i true) a' w') a w
theorem anyZ_any : ∀ (f : Nat) (listed : Array Bool) (a : Act) (w : World), anyZ P ops C S z f listed a w → wpAny P .any ops C f listed a w
  | 0, _, _, _, h => h
  | f + 1, _, _, _, h => ⟨h.1, fun i hi => wpOp_mono (fun a' w' h' => anyZ_any f _ a' w' h'.2) (h.2 i hi)⟩
theorem anyZ_first {i : Nat} {oi : Oper} {v : Value} (hi : ops[i]? = some oi) (hsel : ∀ (j : Nat) (o : Oper) cs b, ops[j]? = some o → o.op ≠ .select cs b)
    (hC : ∀ c a w, C (.panic c) (a.put oi.dst v) w → C (.panic c) a w) (n : Nat) : ∀ (f : Nat) (listed : Array Bool) (a : Act) (w : World),
    (∀ j oj, ops[j]? = some oj → j ≠ i → listed.getD j true = false → (∀ e ∈ oj.after, Region.binds .any e = true → e.on ≠ i) → oi.apart ops oj = true) →
    (∀ d ∈ z, listed.getD d true = false → waitsB ops i n d = true) → ShutL ops listed → i ∈ Region.ready .any ops listed → YieldsIf P ops S oi v a → S w →
    anyZ P ops C S z f (listed.setIfInBounds i true) (a.put oi.dst v) w → anyZ P ops C S z (f + 1) listed a w := by
  intro f
  induction f with
  | zero =>
    intro listed a w _ _ _ hr hy hS H
    refine ⟨fun h => (by rw [h] at hr; cases hr), fun j hj => ?_⟩
    by_cases hji : j = i
    · subst hji; exact hy.wpOp hi hS ⟨fun _ => hS, H⟩
    · have := ready_mono hj hji
      rw [H.1] at this
      cases this
  | succ f ih =>
    intro listed a w hfree hz hc hr hy hS H
    refine ⟨fun h => (by rw [h] at hr; cases hr), fun j hj => ?_⟩
    by_cases hji : j = i
    · subst hji; exact hy.wpOp hi hS ⟨fun _ => hS, H⟩
    · obtain ⟨hjun, oj, hoj, hall⟩ := mem_ready.1 hj
      have hiun := unlisted (mem_ready.1 hr).1
      have hnot : ∀ e ∈ oj.after, Region.binds .any e = true → e.on ≠ i := fun e he hb heq => by
        have h1 := hall e he hb
        rw [heq, hiun] at h1
        cases h1
      have hjz : j ∉ z := fun e => by
        have := waits_listed hc n j (hz j e hjun) fun o ho e he hb => by
          obtain rfl : o = oj := Option.some.inj (ho.symm.trans hoj)
          exact hall e he hb
        rw [hiun] at this
        cases this
      have h2 := wpOp_putIf hoj (hfree j oj hoj hji hjun hnot) (fun cs b => hsel i oi cs b hi) (fun cs b => hsel j oj cs b hoj) hC hy (H.2 j (ready_mono hj hji))
      have hfree' : ∀ k ok, ops[k]? = some ok → k ≠ i → (listed.setIfInBounds j true).getD k true = false → (∀ e ∈ ok.after, Region.binds .any e = true → e.on ≠ i) → oi.apart ops ok = true := fun k ok hk hki hun hno => by
        refine hfree k ok hk hki ?_ hno
        by_cases hjk : j = k
        · subst hjk; exact hjun
        · rw [getD_set_ne true hjk] at hun; exact hun
      have hz' : ∀ d ∈ z, (listed.setIfInBounds j true).getD d true = false → waitsB ops i n d = true := fun d hm hun => by
        refine hz d hm ?_
        by_cases hjk : j = d
        · subst hjk; exact hjun
        · rw [getD_set_ne true hjk] at hun; exact hun
      refine wpOp_mono (fun a' w' h3 => ⟨h3.2.1, ih (listed.setIfInBounds j true) a' w' hfree' hz' (hc.set hj) (ready_mono hr (Ne.symm hji)) h3.1 (h3.2.1 hjz) ?_⟩) h2
      rw [Array.setIfInBounds_comm _ _ hji]
      exact h3.2.2
/-- what is checked before number i is taken -/
def takeZ (ops : Array Oper) (z : List Nat) (listed : Array Bool) (i : Nat) : Bool :=
  Region.noSelect ops && (Region.free .any ops listed i && ((Region.ready .any ops listed).contains i && (shutB ops listed && z.all fun d => listed.getD d true || waitsB ops i ops.size d)))
theorem anyZ_take {i : Nat} {oi : Oper} {v : Value} {f : Nat} {listed : Array Bool} {a : Act} {w : World} (hi : ops[i]? = some oi) (hc : takeZ ops z listed i = true)
    (hC : ∀ c a w, C (.panic c) (a.put oi.dst v) w → C (.panic c) a w) (hy : YieldsIf P ops S oi v a) (hS : S w)
    (h : anyZ P ops C S z f (listed.setIfInBounds i true) (a.put oi.dst v) w) : anyZ P ops C S z (f + 1) listed a w := by
  simp only [takeZ, Bool.and_eq_true] at hc
  obtain ⟨h1, h2, h3, h4, h5⟩ := hc
  have h6 : ∀ d ∈ z, listed.getD d true = false → waitsB ops i ops.size d = true := fun d hm hun => by
    have := List.all_eq_true.1 h5 d hm
    rw [hun] at this
    simpa using this
  exact anyZ_first hi (Region.noSelect_spec h1) hC ops.size f listed a w (Region.free_spec hi h2) h6 (shutB_spec h4) (by simpa using h3) hy hS h
end
section
variable {P : Program} {n : Nat} {ops : Array Oper} {Q : Post} {S : World → Prop} {z : List Nat} {f : Nat} {listed : Array Bool} {L : Env} {w : World} {o : Oper}
def ZL (P : Program) (n : Nat) (ops : Array Oper) (Q : Post) (S : World → Prop) (z : List Nat) (f : Nat) (listed : Array Bool) (L : Env) (w : World) : Prop :=
  ∀ a, Fits n L a → anyZ P ops (lift n Q) S z f listed a w
theorem CW.last {id : Nat} {l : List Oper} (S : World → Prop) (z : List Nat) (hm : P.follows .mixedOrders = true)
    (h : ZL P n l.toArray Q S z l.length (List.replicate l.length false).toArray L w.drew) : CW P n (.region id l.toArray true) Q L w := fun a ha =>
  wp_region_any hm (anyZ_any _ _ _ _ (by simpa using h a ha))
theorem ZL.take {v : Value} {d : Nat} (i : Nat) (hi : ops[i]? = some o) (hc : takeZ ops z listed i = true) (hg : o.guard = none) (hd : o.dst = some d) (hn : Nat.blt d n = true) (hS : S w) (h : ∀ w, S w → Res P o L w v)
    (k : ZL P n ops Q S z f (listed.setIfInBounds i true) ((d, v) :: L) w) : ZL P n ops Q S z (f + 1) listed L w := fun a ha => by
  refine anyZ_take hi hc (fun _ _ _ h => h) (.inl ⟨by simp [Region.wanted, hg], fun w hw => h w hw n a ha⟩) hS ?_
  rw [hd]
  exact k _ (ha.put (blt_lt hn) v)
theorem ZL.one (i : Nat) (hi : ops[i]? = some o) (hr : Region.ready .any ops listed = [i]) (hg : o.guard = none)
    (h : Stp P n o L w (fun L' w' => S w' ∧ ZL P n ops Q S z f (listed.setIfInBounds i true) L' w')) : ZL P n ops Q S z (f + 1) listed L w := fun a ha => by
  refine ⟨fun h0 => (by rw [hr] at h0; cases h0), fun j hj => ?_⟩
  rw [hr] at hj
  rw [List.mem_singleton.1 hj]
  unfold wpOp
  simp only [hi]
  rw [if_pos (by simp [Region.wanted, hg])]
  exact .inl (Oper.wp_mono' (h a ha _) fun a' w' ⟨L', hf, hk⟩ => ⟨fun _ => hk.1, hk.2 a' hf⟩)
/-- an operation of z -/
theorem ZL.end (i : Nat) (hz : (z.contains i) = true) (hi : ops[i]? = some o) (hr : Region.ready .any ops listed = [i]) (hg : o.guard = none)
    (h : Stp P n o L w (fun L' w' => ZL P n ops Q S z f (listed.setIfInBounds i true) L' w')) : ZL P n ops Q S z (f + 1) listed L w := fun a ha => by
  refine ⟨fun h0 => (by rw [hr] at h0; cases h0), fun j hj => ?_⟩
  rw [hr] at hj
  rw [List.mem_singleton.1 hj]
  unfold wpOp
  simp only [hi]
  rw [if_pos (by simp [Region.wanted, hg])]
  exact .inl (Oper.wp_mono' (h a ha _) fun a' w' ⟨L', hf, hk⟩ => ⟨fun e => absurd (by simpa using hz) e, hk a' hf⟩)
theorem ZL.done (hr : Region.ready .any ops listed = []) (h : Q .normal L w) : ZL P n ops Q S z f listed L w := fun a ha => by
  cases f with
  | zero => exact ⟨hr, L, ha, h⟩
  | succ f => exact ⟨fun _ => ⟨L, ha, h⟩, fun i hi => by rw [hr] at hi; cases hi⟩
end
end Go.E
