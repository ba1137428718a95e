/- Lemmas on the way to the statement; no condition of its own. -/
import Derived.WalkKit
import Derived.Laws.Rows
import Derived.Laws.MakeOwn
import Derived.Lib.ConvBytes
import Derived.OrdersHeld
import Derived.StillTail
import Derived.Laws.BytesArg
import Derived.Lib.SlBytesConst
import Derived.Laws.StructEq
import Derived.ProofKit
import Derived.OpenShut
import Derived.ShutString
import Derived.ChangeOld
import Derived.Below
namespace Go.E
open Go
set_option linter.unusedVariables false
set_option linter.unusedSimpArgs false
theorem blt_lt {a b : Nat} (h : Nat.blt a b = true) : a < b := by simpa using h
abbrev Env := List (Nat × Value)
def Env.get : Env → Nat → Option Value
  | [], _ => none
  | (k, v) :: r, t => bif Nat.beq k t then some v else Env.get r t
def Env.ev (L : Env) : Operand → Option Value
  | .tmp t => L.get t
  | .const v => some v
  | .global g => some (.pointer (some ⟨g, 0, none⟩))
  | .func f => some (.func (.func f) #[] #[])
structure Fits (n : Nat) (L : Env) (a : Act) : Prop where
  size : a.tmps.size = n
  defers : a.defers = []
  has : ∀ t v, L.get t = some v → a.tmps[t]? = some v
theorem Fits.ev {n : Nat} {L : Env} {a : Act} (h : Fits n L a) {x : Operand} {v : Value} (hx : L.ev x = some v) : a.eval x = v := by
  cases x with
  | tmp t => simp only [Env.ev] at hx; simp [Act.eval, h.has t v hx]
  | const u => simp only [Env.ev, Option.some.injEq] at hx; exact hx
  | global g => simp only [Env.ev, Option.some.injEq] at hx; exact hx
  | func f => simp only [Env.ev, Option.some.injEq] at hx; exact hx
theorem Fits.put {n : Nat} {L : Env} {a : Act} (h : Fits n L a) {d : Nat} (hd : d < n) (v : Value) : Fits n ((d, v) :: L) (a.put (some d) v) := by
  refine ⟨by simp [Act.put, h.size], by simp [Act.put, h.defers], fun t u hu => ?_⟩
  simp only [Env.get] at hu
  cases hb : Nat.beq d t with
  | true =>
    have e := Nat.eq_of_beq_eq_true hb
    subst e
    simp only [hb, cond_true, Option.some.injEq] at hu
    subst hu
    simp only [Act.put]
    rw [Array.getElem?_setIfInBounds_self_of_lt (by rw [h.size]; exact hd)]
  | false =>
    simp only [hb, cond_false] at hu
    have hne : d ≠ t := fun e => by subst e; simp at hb
    simp only [Act.put]
    rw [Array.getElem?_setIfInBounds_ne hne]
    exact h.has t u hu
def Sub : Env → Env → Prop
  | [], _ => True
  | (k, v) :: r, L => L.get k = some v ∧ Sub r L
theorem Sub.get {L' L : Env} (h : Sub L' L) : ∀ t v, L'.get t = some v → L.get t = some v := by
  induction L' with
  | nil => intro t v hv; simp [Env.get] at hv
  | cons p r ih =>
    obtain ⟨k, u⟩ := p
    intro t v hv
    simp only [Env.get] at hv
    cases hb : Nat.beq k t with
    | true =>
      have e := Nat.eq_of_beq_eq_true hb
      subst e
      simp only [hb, cond_true, Option.some.injEq] at hv
      subst hv
      exact h.1
    | false =>
      simp only [hb, cond_false] at hv
      exact ih h.2 t v hv
theorem Fits.sub {n : Nat} {L L' : Env} {a : Act} (h : Fits n L a) (hs : Sub L' L) : Fits n L' a :=
  ⟨h.size, h.defers, fun t v hv => h.has t v (hs.get t v hv)⟩
abbrev Post := Exit → Env → World → Prop
def lift (n : Nat) (Q : Post) : Exit → Act → World → Prop
  | .panic _, _, _ => False
  | .outgrown, _, _ => False
  | .normal, a, w => ∃ L, Fits n L a ∧ Q .normal L w
  | .ret, a, w => ∃ L, Fits n L a ∧ Q .ret L w
  | .exit i, a, w => ∃ L, Fits n L a ∧ Q (.exit i) L w
  | .goto i, a, w => ∃ L, Fits n L a ∧ Q (.goto i) L w
def CW (P : Program) (n : Nat) (c : Code) (Q : Post) (L : Env) (w : World) : Prop := ∀ a, Fits n L a → c.wp P (lift n Q) a w
def WL (P : Program) (n : Nat) (ops : Array Oper) (Q : Post) (l : List Oper) (L : Env) (w : World) : Prop := ∀ a, Fits n L a → wpList P ops (lift n Q) l a w
def Thn (K : Env → World → Prop) (Q : Post) : Post
  | .normal, L, w => K L w
  | e, L, w => Q e L w
def Blk (id : Nat) (Q : Post) : Post
  | .exit i, L, w => bif Nat.beq i id then Q .normal L w else Q (.exit i) L w
  | e, L, w => Q e L w
section
variable {P : Program} {n : Nat} {Q : Post} {L : Env} {w : World} {ops : Array Oper} {rest : List Oper} {o : Oper}
theorem CW.sub {c : Code} {L' : Env} (hs : Sub L' L) (h : CW P n c Q L' w) : CW P n c Q L w := fun a ha => h a (ha.sub hs)
theorem WL.sub {L' : Env} (hs : Sub L' L) (h : WL P n ops Q rest L' w) : WL P n ops Q rest L w := fun a ha => h a (ha.sub hs)
theorem CW.seq {x y : Code} (h : CW P n x (Thn (CW P n y Q) Q) L w) : CW P n (.seq x y) Q L w := fun a ha => by
  refine wp_seq (wp_mono (h a ha) fun e a' w' he => ?_)
  cases e with
  | normal => obtain ⟨L', hf, hq⟩ := he; exact hq a' hf
  | _ => exact he
theorem CW.skip (h : Q .normal L w) : CW P n .skip Q L w := fun _ ha => wp_skip ⟨L, ha, h⟩
theorem CW.ret (h : Q .ret L w) : CW P n .ret Q L w := fun _ ha => wp_ret ⟨L, ha, h⟩
theorem CW.exit {id : Nat} (h : Q (.exit id) L w) : CW P n (.exit id) Q L w := fun _ ha => wp_exit ⟨L, ha, h⟩
theorem CW.block {id : Nat} {c : Code} (h : CW P n c (Blk id Q) L w) : CW P n (.block id c) Q L w := fun a ha => by
  refine wp_block (wp_mono (h a ha) fun e a' w' he => ?_)
  cases e with
  | exit i =>
    obtain ⟨L', hf, hq⟩ := he
    simp only [Exit.inBlock]
    simp only [Blk] at hq
    by_cases hi : i = id
    · subst hi; simp only [Nat.beq_refl, cond_true] at hq; simp only [if_true]; exact ⟨L', hf, hq⟩
    · have : Nat.beq i id = false := by cases hb : Nat.beq i id with
        | true => exact absurd (Nat.eq_of_beq_eq_true hb) hi
        | false => rfl
      simp only [this, cond_false] at hq; simp only [hi, if_false]; exact ⟨L', hf, hq⟩
  | _ => exact he
theorem CW.cond {c : Operand} {x y : Code} {t : Bool} (hc : L.ev c = some (.bool t)) (ht : t = true → CW P n x Q L w) (hf : t = false → CW P n y Q L w) : CW P n (.cond c x y) Q L w :=
  fun a ha => wp_cond_split (ha.ev hc) (fun h => ht h a ha) (fun h => hf h a ha)
theorem CW.condT {c : Operand} {x y : Code} (hc : L.ev c = some (.bool true)) (h : CW P n x Q L w) : CW P n (.cond c x y) Q L w :=
  fun a ha => wp_cond_true (ha.ev hc) (h a ha)
theorem CW.condF {c : Operand} {x y : Code} (hc : L.ev c = some (.bool false)) (h : CW P n y Q L w) : CW P n (.cond c x y) Q L w :=
  fun a ha => wp_cond_false (ha.ev hc) (h a ha)
theorem CW.ite {c : Operand} {x y : Code} {p : Prop} {_ : Decidable p} (hc : L.ev c = some (.bool (decide p))) (ht : p → CW P n x Q L w) (hf : ¬ p → CW P n y Q L w) : CW P n (.cond c x y) Q L w :=
  CW.cond hc (fun h => ht (of_decide_eq_true h)) (fun h => hf (of_decide_eq_false h))
theorem CW.loop {σ : Type} {c : Code} (env : σ → Env) (I : σ → World → Prop) (μ : σ → Nat) (s0 : σ) (hs : Sub (env s0) L) (h0 : I s0 w)
    (round : ∀ s w, I s w → CW P n c (Thn (fun L' w' => ∃ s', Sub (env s') L' ∧ I s' w' ∧ μ s' < μ s) Q) (env s) w) : CW P n (.loop c) Q L w := fun a ha => by
  intro b k cs
  have key : ∀ m s a w, μ s = m → Fits n (env s) a → I s w →
      ∃ e a' w', lift n Q e a' w' ∧ Arrives P (lone (b.at a (.code c :: .inLoop c :: k)) cs w) b k cs e a' w' := by
    intro m
    induction m using Nat.strongRecOn with
    | _ m ih =>
      intro s a w hm hf hI
      obtain ⟨e, a₁, w₁, hq, harr⟩ := round s w hI a hf b (.inLoop c :: k) cs
      cases e with
      | normal =>
        obtain ⟨L₁, hf₁, hq⟩ := hq
        obtain ⟨s', hs', hI', hlt⟩ := hq
        obtain ⟨e₂, a₂, w₂, hq₂, harr₂⟩ := ih (μ s') (hm ▸ hlt) s' a₁ w₁ rfl (hf₁.sub hs') hI'
        exact ⟨e₂, a₂, w₂, hq₂, .of_steps (Steps.trans harr (.one step_inLoop)) harr₂⟩
      | exit id => exact ⟨.exit id, a₁, w₁, (show lift n Q (.exit id) a₁ w₁ from hq), .pass (x := .inLoop c) rfl (fun _ _ => .inl (by simp)) harr⟩
      | goto l => exact ⟨.goto l, a₁, w₁, (show lift n Q (.goto l) a₁ w₁ from hq), .pass (x := .inLoop c) rfl (fun _ _ => .inl (by simp)) harr⟩
      | ret => exact ⟨.ret, a₁, w₁, (show lift n Q .ret a₁ w₁ from hq), .pass (x := .inLoop c) rfl (fun _ _ => .inl (by simp)) harr⟩
      | panic ch => exact ⟨.panic ch, a₁, w₁, (show lift n Q (.panic ch) a₁ w₁ from hq), .pass (x := .inLoop c) rfl (fun _ _ => .inl (by simp)) harr⟩
      | outgrown => exact ⟨.outgrown, a₁, w₁, (show lift n Q .outgrown a₁ w₁ from hq), .pass (x := .inLoop c) rfl (fun _ _ => .inl (by simp)) harr⟩
  obtain ⟨e, a', w', hq, harr⟩ := key _ s0 a w rfl (ha.sub hs) h0
  exact ⟨e, a', w', hq, .of_steps (.one step_loop) harr⟩
def Stp (P : Program) (n : Nat) (o : Oper) (L : Env) (w : World) (K : Env → World → Prop) : Prop :=
  ∀ a, Fits n L a → ∀ Q, o.wp P a w (fun a' w' => ∃ L', Fits n L' a' ∧ K L' w') Q
theorem Oper.wp_mono' {o : Oper} {a : Act} {w : World} {K K' : Act → World → Prop} {Q : Exit → Act → World → Prop} (hh : o.wp P a w K Q) (h : ∀ a w, K a w → K' a w) : o.wp P a w K' Q := Oper.wp_mono h hh
theorem WL.step (hg : o.guard = none) (h : Stp P n o L w (WL P n ops Q rest)) : WL P n ops Q (o :: rest) L w := fun a ha =>
  wpList_plain hg fun K hK => Oper.wp_mono' (h a ha _) fun a' w' ⟨L', hf, hk⟩ => hK _ _ (hk a' hf)
theorem wanted_of {j : Nat} {want : Bool} {g : Oper} {t : Nat} {b : Bool} {a : Act} (ha : Fits n L a) (hg : o.guard = some (j, want)) (hj : ops[j]? = some g) (ht : g.dst = some t) (hb : L.get t = some (.bool b)) :
    Region.wanted o (yielded ops a.tmps) = (b == want) := by
  have h1 := ha.has t _ hb
  have h2 : yielded ops a.tmps j = some b := by
    unfold yielded
    simp [hj, ht, h1]
  simp only [Region.wanted, hg, h2]
  cases b <;> cases want <;> rfl
theorem WL.stepG (j : Nat) (want : Bool) {g : Oper} {t : Nat} (hg : o.guard = some (j, want)) (hj : ops[j]? = some g) (ht : g.dst = some t) (hb : L.get t = some (.bool want))
    (h : Stp P n o L w (WL P n ops Q rest)) : WL P n ops Q (o :: rest) L w := fun a ha => by
  refine wpList_step fun K hK => ?_
  rw [if_pos (by rw [wanted_of ha hg hj ht hb]; simp)]
  exact Oper.wp_mono' (h a ha _) fun a' w' ⟨L', hf, hk⟩ => hK _ _ (hk a' hf)
theorem WL.skipG (j : Nat) (want : Bool) {g : Oper} {t d : Nat} (hg : o.guard = some (j, want)) (hj : ops[j]? = some g) (ht : g.dst = some t) (hb : L.get t = some (.bool (!want)))
    (hd : o.dst = some d) (hn : Nat.blt d n = true) (h : WL P n ops Q rest ((d, undef) :: L) w) : WL P n ops Q (o :: rest) L w := fun a ha => by
  refine wpList_step fun K hK => ?_
  rw [if_neg (by rw [wanted_of ha hg hj ht hb]; simp), hd]
  exact hK _ _ (h _ (ha.put (blt_lt hn) _))
theorem WL.nil (h : Q .normal L w) : WL P n ops Q [] L w := fun _ ha => wpList_nil ⟨L, ha, h⟩
theorem CW.region {id : Nat} {l : List Oper} (h : WL P n l.toArray Q l L w) : CW P n (.region id l.toArray false) Q L w := fun a ha => wp_region_lit (h a ha)
def Res (P : Program) (o : Oper) (L : Env) (w : World) (v : Value) : Prop := ∀ n a, Fits n L a → (execOp a.eval o).run P w = .ok (.value v) w
theorem Stp.res {v : Value} {d : Nat} {K : Env → World → Prop} (hd : o.dst = some d) (hn : Nat.blt d n = true) (h : Res P o L w v) (k : K ((d, v) :: L) w) : Stp P n o L w K := fun a ha Q => by
  unfold Oper.wp
  rw [h n a ha]
  simp only [Oper.upon, hd]
  exact ⟨_, ha.put (blt_lt hn) v, k⟩
theorem Stp.resW {v : Value} {w' : World} {d : Nat} {K : Env → World → Prop} (hd : o.dst = some d) (hn : Nat.blt d n = true) (h : ∀ n a, Fits n L a → (execOp a.eval o).run P w = .ok (.value v) w') (k : K ((d, v) :: L) w') : Stp P n o L w K := fun a ha Q => by
  unfold Oper.wp
  rw [h n a ha]
  simp only [Oper.upon, hd]
  exact ⟨_, ha.put (blt_lt hn) v, k⟩
theorem Stp.unitW {w' : World} {K : Env → World → Prop} (hd : o.dst = none) (h : ∀ n a, Fits n L a → (execOp a.eval o).run P w = .ok .skip w') (k : K L w') : Stp P n o L w K := fun a ha Q => by
  unfold Oper.wp
  rw [h n a ha]
  simp only [Oper.upon, hd]
  exact ⟨_, ha, k⟩
def SL (P : Program) (n : Nat) (ops : Array Oper) (w : World) (K : Env → Prop) (l : List Oper) (L : Env) : Prop :=
  ∀ a, Fits n L a → wpStill P ops w (fun a' => ∃ L', Fits n L' a' ∧ K L') l a
theorem SL.nil {K : Env → Prop} (h : K L) : SL P n ops w K [] L := fun _ ha => ⟨L, ha, h⟩
theorem SL.step {K : Env → Prop} {v : Value} {d : Nat} (hg : o.guard = none) (hd : o.dst = some d) (hn : Nat.blt d n = true) (h : Res P o L w v) (k : SL P n ops w K rest ((d, v) :: L)) : SL P n ops w K (o :: rest) L := fun a ha => by
  refine wpStill_step fun K' hK => ?_
  rw [if_pos (by simp [Region.wanted, hg])]
  unfold Oper.still
  rw [h n a ha]
  simp only [Oper.stillUpon, hd, true_and]
  exact hK _ (k _ (ha.put (blt_lt hn) v))
theorem SL.stepG {K : Env → Prop} {v : Value} {d : Nat} (j : Nat) (want : Bool) {g : Oper} {t : Nat} (hg : o.guard = some (j, want)) (hj : ops[j]? = some g) (ht : g.dst = some t) (hb : L.get t = some (.bool want))
    (hd : o.dst = some d) (hn : Nat.blt d n = true) (h : Res P o L w v) (k : SL P n ops w K rest ((d, v) :: L)) : SL P n ops w K (o :: rest) L := fun a ha => by
  refine wpStill_step fun K' hK => ?_
  rw [if_pos (by rw [wanted_of ha hg hj ht hb]; simp)]
  unfold Oper.still
  rw [h n a ha]
  simp only [Oper.stillUpon, hd, true_and]
  exact hK _ (k _ (ha.put (blt_lt hn) v))
theorem SL.skipG {K : Env → Prop} {d : Nat} (j : Nat) (want : Bool) {g : Oper} {t : Nat} (hg : o.guard = some (j, want)) (hj : ops[j]? = some g) (ht : g.dst = some t) (hb : L.get t = some (.bool (!want)))
    (hd : o.dst = some d) (hn : Nat.blt d n = true) (k : SL P n ops w K rest ((d, undef) :: L)) : SL P n ops w K (o :: rest) L := fun a ha => by
  refine wpStill_step fun K' hK => ?_
  rw [if_neg (by rw [wanted_of ha hg hj ht hb]; simp), hd]
  exact hK _ (k _ (ha.put (blt_lt hn) _))
theorem CW.still {id : Nat} {l : List Oper} (hm : P.follows .mixedOrders = true) (hB : Region.lexB .any l.toArray = true)
    (h : SL P n l.toArray w.drew (fun L' => Q .normal L' w.drew) l L) : CW P n (.region id l.toArray true) Q L w := fun a ha =>
  wp_region_still_lit hm hB (h a ha)
theorem CW.tail {id : Nat} {l : List Oper} (k : Nat) (hm : P.follows .mixedOrders = true) (hB : Region.lexTailB .any l.toArray k = true)
    (h : SL P n l.toArray w.drew (fun L' => WL P n l.toArray Q (l.drop k) L' w.drew) (l.take k) L) : CW P n (.region id l.toArray true) Q L w := fun a ha => by
  refine wp_region_still_tail k hm hB ?_
  have h1 := h a ha
  have mono : ∀ (m : List Oper) (a : Act) (K K' : Act → Prop), (∀ a, K a → K' a) → wpStill P l.toArray w.drew K m a → wpStill P l.toArray w.drew K' m a := by
    intro m
    induction m with
    | nil => intro a K K' hk h; exact hk _ h
    | cons o m ih =>
      intro a K K' hk h
      simp only [wpStill] at h ⊢
      split at h
      · rename_i hw; rw [if_pos hw]; exact Oper.still_mono (fun a h => ih a K K' hk h) h
      · rename_i hw; rw [if_neg hw]; exact ih _ K K' hk h
  exact mono _ _ _ _ (fun a' ⟨L', hf, hk⟩ => hk a' hf) h1
def AL (P : Program) (n : Nat) (ops : Array Oper) (Q : Post) (S : World → Prop) (fuel : Nat) (listed : Array Bool) (L : Env) (w : World) : Prop :=
  ∀ a, Fits n L a → wpAnyH P .any ops (lift n Q) S fuel listed a w
theorem CW.held {id : Nat} {l : List Oper} (S : World → Prop) (hm : P.follows .mixedOrders = true)
    (h : AL P n l.toArray Q S l.length (List.replicate l.length false).toArray L w.drew) : CW P n (.region id l.toArray true) Q L w := fun a ha =>
  wp_region_held (S := S) hm (by simpa using h a ha)
section
variable {S : World → Prop} {fuel : Nat} {listed : Array Bool}
theorem AL.take {v : Value} {d : Nat} (i : Nat) (hi : ops[i]? = some o) (hs : Region.noSelect ops = true) (hf : Region.free .any ops listed i = true) (hr : (Region.ready .any ops listed).contains i = true)
    (hg : o.guard = none) (hd : o.dst = some d) (hn : Nat.blt d n = true) (hS : S w) (h : ∀ w, S w → Res P o L w v)
    (k : AL P n ops Q S fuel (listed.setIfInBounds i true) ((d, v) :: L) w) : AL P n ops Q S (fuel + 1) listed L w := fun a ha => by
  refine wpAnyH_take hi hs hf hr (fun _ _ _ h => h) (.inl ⟨by simp [Region.wanted, hg], fun w hw => h w hw n a ha⟩) hS ?_
  rw [hd]
  exact k _ (ha.put (blt_lt hn) v)
theorem AL.skipG {d : Nat} (i : Nat) (j : Nat) (want : Bool) {g : Oper} {t : Nat} (hi : ops[i]? = some o) (hs : Region.noSelect ops = true) (hf : Region.free .any ops listed i = true) (hr : (Region.ready .any ops listed).contains i = true)
    (hg : o.guard = some (j, want)) (hj : ops[j]? = some g) (ht : g.dst = some t) (hb : L.get t = some (.bool (!want))) (hd : o.dst = some d) (hn : Nat.blt d n = true) (hS : S w)
    (k : AL P n ops Q S fuel (listed.setIfInBounds i true) ((d, undef) :: L) w) : AL P n ops Q S (fuel + 1) listed L w := fun a ha => by
  refine wpAnyH_take (v := undef) hi hs hf hr (fun _ _ _ h => h) (.inr ⟨by rw [wanted_of ha hg hj ht hb]; simp, rfl⟩) hS ?_
  rw [hd]
  exact k _ (ha.put (blt_lt hn) _)
theorem AL.one (i : Nat) (hi : ops[i]? = some o) (hr : Region.ready .any ops listed = [i]) (hg : o.guard = none)
    (h : Stp P n o L w (fun L' w' => S w' ∧ AL P n ops Q S fuel (listed.setIfInBounds i true) L' w')) : AL P n ops Q S (fuel + 1) listed L w := fun a ha => by
  refine wpAnyH_all hr (by simp) fun j hj => ?_
  rw [List.mem_singleton.1 hj]
  unfold wpOp
  simp only [hi]
  rw [if_pos (by simp [Region.wanted, hg])]
  exact .inl (Oper.wp_mono' (h a ha _) fun a' w' ⟨L', hf, hk⟩ => ⟨hk.1, hk.2 a' hf⟩)
theorem AL.oneG (i : Nat) (j : Nat) (want : Bool) {g : Oper} {t : Nat} (hi : ops[i]? = some o) (hr : Region.ready .any ops listed = [i])
    (hg : o.guard = some (j, want)) (hj : ops[j]? = some g) (ht : g.dst = some t) (hb : L.get t = some (.bool want))
    (h : Stp P n o L w (fun L' w' => S w' ∧ AL P n ops Q S fuel (listed.setIfInBounds i true) L' w')) : AL P n ops Q S (fuel + 1) listed L w := fun a ha => by
  refine wpAnyH_all hr (by simp) fun k hk => ?_
  rw [List.mem_singleton.1 hk]
  unfold wpOp
  simp only [hi]
  rw [if_pos (by rw [wanted_of ha hg hj ht hb]; simp)]
  exact .inl (Oper.wp_mono' (h a ha _) fun a' w' ⟨L', hf, hk⟩ => ⟨hk.1, hk.2 a' hf⟩)
theorem AL.two (i j : Nat) {oj : Oper} (hi : ops[i]? = some o) (hj : ops[j]? = some oj) (hr : Region.ready .any ops listed = [i, j]) (hgi : o.guard = none) (hgj : oj.guard = none)
    (h1 : Stp P n o L w (fun L' w' => S w' ∧ AL P n ops Q S fuel (listed.setIfInBounds i true) L' w'))
    (h2 : Stp P n oj L w (fun L' w' => S w' ∧ AL P n ops Q S fuel (listed.setIfInBounds j true) L' w')) : AL P n ops Q S (fuel + 1) listed L w := fun a ha => by
  refine wpAnyH_all hr (by simp) fun k hk => ?_
  simp only [List.mem_cons, List.not_mem_nil, or_false] at hk
  rcases hk with rfl | rfl
  · unfold wpOp
    simp only [hi]
    rw [if_pos (by simp [Region.wanted, hgi])]
    exact .inl (Oper.wp_mono' (h1 a ha _) fun a' w' ⟨L', hf, hk⟩ => ⟨hk.1, hk.2 a' hf⟩)
  · unfold wpOp
    simp only [hj]
    rw [if_pos (by simp [Region.wanted, hgj])]
    exact .inl (Oper.wp_mono' (h2 a ha _) fun a' w' ⟨L', hf, hk⟩ => ⟨hk.1, hk.2 a' hf⟩)
theorem AL.done (hr : Region.ready .any ops listed = []) (h : Q .normal L w) : AL P n ops Q S fuel listed L w := fun a ha =>
  wpAnyH_done hr ⟨L, ha, h⟩ fuel
end
theorem CW.post {c : Code} (R : Env → World → Prop) (h : CW P n c (Thn R (fun _ _ _ => False)) L w) (k : ∀ L w, R L w → Q .normal L w) : CW P n c Q L w := fun a ha =>
  wp_mono (h a ha) fun e a' w' he => by
    cases e with
    | normal => obtain ⟨L', hf, hq⟩ := he; exact ⟨L', hf, k _ _ hq⟩
    | panic c => exact he
    | outgrown => exact he
    | ret => obtain ⟨L', _, hq⟩ := he; exact hq.elim
    | exit i => obtain ⟨L', _, hq⟩ := he; exact hq.elim
    | goto i => obtain ⟨L', _, hq⟩ := he; exact hq.elim
end
theorem Thn_n {K : Env → World → Prop} {Q : Post} {L : Env} {w : World} (h : K L w) : Thn K Q .normal L w := h
theorem Thn_x {K : Env → World → Prop} {Q : Post} {L : Env} {w : World} {i : Nat} (h : Q (.exit i) L w) : Thn K Q (.exit i) L w := h
theorem Thn_r {K : Env → World → Prop} {Q : Post} {L : Env} {w : World} (h : Q .ret L w) : Thn K Q .ret L w := h
theorem Blk_n {id : Nat} {Q : Post} {L : Env} {w : World} (h : Q .normal L w) : Blk id Q .normal L w := h
theorem Blk_x {id : Nat} {Q : Post} {L : Env} {w : World} (h : Q .normal L w) : Blk id Q (.exit id) L w := by
  show bif Nat.beq id id then _ else _
  simpa using h
theorem Blk_y {id i : Nat} {Q : Post} {L : Env} {w : World} (hi : Nat.beq i id = false) (h : Q (.exit i) L w) : Blk id Q (.exit i) L w := by
  show bif Nat.beq i id then _ else _
  rw [hi]; exact h
theorem Blk_r {id : Nat} {Q : Post} {L : Env} {w : World} (h : Q .ret L w) : Blk id Q .ret L w := h
theorem CW.iteT {P : Program} {n : Nat} {Q : Post} {L : Env} {w : World} {c : Operand} {x y : Code} {p : Prop} {_ : Decidable p} (hc : L.ev c = some (.bool (decide p))) (hp : p) (h : CW P n x Q L w) : CW P n (.cond c x y) Q L w :=
  CW.condT (hc.trans (by simp [hp])) h
theorem CW.iteF {P : Program} {n : Nat} {Q : Post} {L : Env} {w : World} {c : Operand} {x y : Code} {p : Prop} {_ : Decidable p} (hc : L.ev c = some (.bool (decide p))) (hp : ¬ p) (h : CW P n y Q L w) : CW P n (.cond c x y) Q L w :=
  CW.condF (hc.trans (by simp [hp])) h
def FQ (P : Program) (n : Nat) (fn : Func) (R : Value → World → Prop) : Post
  | .normal, L, w | .ret, L, w => ∃ v, (∀ a, Fits n L a → (results fn a.tmps).run P w = .ok v w) ∧ R v w
  | _, _, _ => False
def args0 (i : Nat) : List Value → Env
  | [] => []
  | v :: r => (i, v) :: args0 (i + 1) r
theorem args0_get : ∀ (l : List Value) (i t : Nat) (v : Value), (args0 i l).get t = some v → i ≤ t ∧ l[t - i]? = some v
  | [], _, _, _, h => by simp [args0, Env.get] at h
  | u :: r, i, t, v, h => by
    simp only [args0, Env.get] at h
    cases hb : Nat.beq i t with
    | true =>
      have e := Nat.eq_of_beq_eq_true hb
      subst e
      simp only [hb, cond_true, Option.some.injEq] at h
      simp [h]
    | false =>
      simp only [hb, cond_false] at h
      obtain ⟨h1, h2⟩ := args0_get r (i + 1) t v h
      refine ⟨by omega, ?_⟩
      have : t - i = (t - (i + 1)) + 1 := by omega
      rw [this]
      simpa using h2
theorem enter {P : Program} {f : FuncId} {fn : Func} {c : Code} {l : List Value} {w : World} {R : Value → World → Prop} (n : Nat)
    (hf : P.funcs[f]? = some fn) (hb : fn.body = some c) (hn : fn.ntmps = n) (hl : Nat.ble l.length n = true) (h : CW P n c (FQ P n fn R) (args0 0 l) w) :
    Calls P f l.toArray w fun e w' => ∃ v, e = .returned v ∧ R v w' := by
  subst hn
  have hl : l.length ≤ fn.ntmps := Nat.le_of_ble_eq_true hl
  refine calls_of_wp hf hb (wp_mono (h _ ⟨by simp; omega, rfl, fun t v hv => ?_⟩) fun e a w' he => ?_)
  · obtain ⟨h1, h2⟩ := args0_get l 0 t v hv
    simp only [Nat.sub_zero] at h2
    have hlt : t < l.length := (List.getElem?_eq_some_iff.1 h2).1
    rw [Array.getElem?_append_left (by simpa using hlt)]
    simpa using h2
  · cases e with
    | normal => obtain ⟨L', hf', v, hv, hR⟩ := he; exact ⟨hf'.defers, v, hv a hf', v, rfl, hR⟩
    | ret => obtain ⟨L', hf', v, hv, hR⟩ := he; exact ⟨hf'.defers, v, hv a hf', v, rfl, hR⟩
    | exit i => obtain ⟨_, _, hq⟩ := he; exact hq.elim
    | goto i => obtain ⟨_, _, hq⟩ := he; exact hq.elim
    | panic c => exact he.elim
    | outgrown => exact he.elim
theorem fq_tmp {P : Program} {n : Nat} {fn : Func} {R : Value → World → Prop} {L : Env} {w : World} {t : Nat} {v : Value} (hr : fn.results = #[.tmp t]) (hv : L.get t = some v) (h : R v w) : FQ P n fn R .ret L w :=
  ⟨v, fun a ha => by simp [results, hr, ha.has t v hv], h⟩
theorem fq_tmp2 {P : Program} {n : Nat} {fn : Func} {R : Value → World → Prop} {L : Env} {w : World} {t t' : Nat} {v v' : Value} (hr : fn.results = #[.tmp t, .tmp t']) (hv : L.get t = some v) (hv' : L.get t' = some v') (h : R (.tuple #[v, v']) w) : FQ P n fn R .ret L w :=
  ⟨_, fun a ha => by simp [results, hr, ha.has t v hv, ha.has t' v' hv'], h⟩
theorem fq_none {P : Program} {n : Nat} {fn : Func} {R : Value → World → Prop} {L : Env} {w : World} (hr : fn.results = #[]) (h : R (.tuple #[]) w) : FQ P n fn R .normal L w :=
  ⟨_, fun a ha => by simp [results, hr], h⟩
end Go.E
namespace Go.E
open Go
abbrev PH := Nat → Option Obj
def PH.le (M M' : PH) : Prop := ∀ i o, M i = some o → M' i = some o
theorem PH.le.refl (M : PH) : PH.le M M := fun _ _ h => h
theorem PH.le.trans {A B C : PH} (h : A.le B) (k : B.le C) : A.le C := fun i o x => k i o (h i o x)
abbrev Owned := List (Nat × Obj)
def nth : Owned → Nat → Option (Nat × Obj)
  | [], _ => none
  | x :: _, 0 => some x
  | _ :: r, i + 1 => nth r i
def upd : Owned → Nat → Obj → Owned
  | [], _, _ => []
  | x :: r, 0, o => (x.1, o) :: r
  | x :: r, i + 1, o => x :: upd r i o
def rem : Owned → Nat → Owned
  | [], _ => []
  | _ :: r, 0 => r
  | x :: r, i + 1 => x :: rem r i
theorem nth_mem {O : Owned} {i : Nat} {x : Nat × Obj} (h : nth O i = some x) : x ∈ O := by
  induction O generalizing i with
  | nil => simp [nth] at h
  | cons y r ih =>
    cases i with
    | zero => simp [nth] at h; simp [h]
    | succ i => simp only [nth] at h; exact List.mem_cons_of_mem _ (ih h)
theorem upd_keys (O : Owned) (i : Nat) (o : Obj) : (upd O i o).map Prod.fst = O.map Prod.fst := by
  induction O generalizing i with
  | nil => rfl
  | cons y r ih => cases i with
    | zero => rfl
    | succ i => simp [upd, ih]
theorem mem_upd {O : Owned} {i : Nat} {b : Nat} {o o' : Obj} (hnd : (O.map Prod.fst).Nodup) (h : nth O i = some (b, o)) {x : Nat × Obj} (hx : x ∈ upd O i o') :
    x = (b, o') ∨ (x ∈ O ∧ x.1 ≠ b) := by
  induction O generalizing i with
  | nil => simp [nth] at h
  | cons y r ih =>
    simp only [List.map_cons, List.nodup_cons] at hnd
    cases i with
    | zero =>
      simp only [nth, Option.some.injEq] at h
      subst h
      simp only [upd, List.mem_cons] at hx
      rcases hx with rfl | hx
      · exact .inl rfl
      · refine .inr ⟨List.mem_cons_of_mem _ hx, fun e => hnd.1 ?_⟩
        have := List.mem_map_of_mem (f := Prod.fst) hx
        rw [e] at this; exact this
    | succ i =>
      simp only [nth] at h
      simp only [upd, List.mem_cons] at hx
      rcases hx with rfl | hx
      · refine .inr ⟨List.mem_cons_self, fun e => hnd.1 ?_⟩
        have := List.mem_map_of_mem (f := Prod.fst) (nth_mem h)
        rw [e]; exact this
      · rcases ih hnd.2 h hx with h1 | h1
        · exact .inl h1
        · exact .inr ⟨List.mem_cons_of_mem _ h1.1, h1.2⟩
theorem alloc_old (w : World) (o : Obj) (i : Nat) (h : i < w.heap.size) : (w.alloc o).heap[i]? = w.heap[i]? := by
  show (w.heap.push o)[i]? = w.heap[i]?
  rw [Array.getElem?_push, if_neg (Nat.ne_of_lt h)]
theorem alloc_new (w : World) (o : Obj) : (w.alloc o).heap[w.heap.size]? = some o := by
  show (w.heap.push o)[w.heap.size]? = some o
  simp
theorem alloc_size (w : World) (o : Obj) : (w.alloc o).heap.size = w.heap.size + 1 := by
  show (w.heap.push o).size = _
  simp
structure St (w0 w : World) (M : PH) (O : Owned) : Prop where
  os : w.os = w0.os
  tape : w.tape = w0.tape
  output : w.output = w0.output
  size : w0.heap.size ≤ w.heap.size
  blk : ∀ k, k < w0.heap.size → (∀ x ∈ O, x.1 ≠ k) → w.heap[k]? = w0.heap[k]?
  on : ∀ i o, M i = some o → w.heap[i]? = some o
  own : ∀ x ∈ O, w.heap[x.1]? = some x.2 ∧ M x.1 = none
  nd : (O.map Prod.fst).Nodup
def On (M : PH) (w : World) : Prop := ∀ i o, M i = some o → w.heap[i]? = some o
section
variable {w0 w : World} {M : PH} {O : Owned}
theorem St.refl (h : On M w) : St w w M [] := ⟨rfl, rfl, rfl, Nat.le_refl _, fun _ _ _ => rfl, h, (fun _ hx => by cases hx), by simp⟩
theorem St.start (h : On M w) (hO : ∀ x ∈ O, w.heap[x.1]? = some x.2 ∧ M x.1 = none) (hn : (O.map Prod.fst).Nodup) : St w w M O :=
  ⟨rfl, rfl, rfl, Nat.le_refl _, fun _ _ _ => rfl, h, hO, hn⟩
theorem St.get (h : St w0 w M O) {i b : Nat} {o : Obj} (hi : nth O i = some (b, o)) : w.heap[b]? = some o := (h.own _ (nth_mem hi)).1
theorem lt_of_get {w : World} {b : Nat} {o : Obj} (h : w.heap[b]? = some o) : b < w.heap.size := (Array.getElem?_eq_some_iff.1 h).1
theorem St.drew (h : St w0 w M O) : St w0 w.drew M O := ⟨h.os, h.tape, h.output, h.size, h.blk, h.on, h.own, h.nd⟩
theorem St.alloc (h : St w0 w M O) (o : Obj) : St w0 (w.alloc o) M ((w.heap.size, o) :: O) := by
  have old : ∀ (i : Nat) (x : Obj), w.heap[i]? = some x → (w.alloc o).heap[i]? = some x := fun i x hx => by
    rw [alloc_old w o i (lt_of_get hx)]; exact hx
  refine ⟨h.os, h.tape, h.output, by rw [alloc_size]; have := h.size; omega, fun k hk hne => ?_, fun i x hx => old i x (h.on i x hx), fun x hx => ?_, ?_⟩
  · rw [alloc_old w o k (Nat.lt_of_lt_of_le hk h.size)]
    exact h.blk k hk fun x hx => hne x (List.mem_cons_of_mem _ hx)
  · rcases List.mem_cons.1 hx with rfl | hx
    · refine ⟨alloc_new w o, ?_⟩
      cases hm : M w.heap.size with
      | none => rfl
      | some y => have := lt_of_get (h.on _ _ hm); omega
    · exact ⟨old _ _ (h.own x hx).1, (h.own x hx).2⟩
  · simp only [List.map_cons, List.nodup_cons]
    refine ⟨fun hm => ?_, h.nd⟩
    obtain ⟨x, hx, he⟩ := List.mem_map.1 hm
    have := lt_of_get (h.own x hx).1
    omega
structure Put (w w' : World) (b : Nat) (o : Obj) : Prop where
  os : w'.os = w.os
  tape : w'.tape = w.tape
  output : w'.output = w.output
  size : w'.heap.size = w.heap.size
  at_ : w'.heap[b]? = some o
  other : ∀ k, k ≠ b → w'.heap[k]? = w.heap[k]?
theorem St.put (h : St w0 w M O) {i b : Nat} {o o' : Obj} (hi : nth O i = some (b, o)) {w' : World} (hp : Put w w' b o') : St w0 w' M (upd O i o') := by
  have hb := h.own _ (nth_mem hi)
  refine ⟨hp.os.trans h.os, hp.tape.trans h.tape, hp.output.trans h.output, by rw [hp.size]; exact h.size, fun k hk hne => ?_, fun j x hx => ?_, fun x hx => ?_, by rw [upd_keys]; exact h.nd⟩
  · have hkeys : ∀ x ∈ O, x.1 ≠ k := fun x hx e => by
      have : k ∈ (upd O i o').map Prod.fst := by rw [upd_keys, ← e]; exact List.mem_map_of_mem hx
      obtain ⟨y, hy, hye⟩ := List.mem_map.1 this
      exact hne y hy hye
    rw [hp.other k fun e => hkeys _ (nth_mem hi) e.symm]
    exact h.blk k hk hkeys
  · rw [hp.other j fun e => by subst e; rw [hb.2] at hx; cases hx]
    exact h.on j x hx
  · rcases mem_upd h.nd hi hx with rfl | ⟨h1, h2⟩
    · exact ⟨hp.at_, hb.2⟩
    · rw [hp.other _ h2]; exact h.own x h1
theorem put_setCell {b off : Nat} {cs : Array Value} {T : TypeId} (v : Value) (h : w.heap[b]? = some (.cells cs T (0, 0))) :
    Put w (w.setCell ⟨b, off, none⟩ v) b (.cells (cs.setIfInBounds off v) T (0, 0)) :=
  ⟨rfl, rfl, rfl, by simp [World.setCell], heap_setCell_same w b off cs T v h, fun k hk => heap_setCell_other w _ k v hk⟩
theorem put_setRow {b : Nat} {cs cs' : Array Value} {T : TypeId} (h : w.heap[b]? = some (.cells cs T (0, 0))) :
    Put w (w.setRow b cs') b (.cells cs' T (0, 0)) :=
  ⟨rfl, rfl, rfl, by simp, setRow_heap w b cs cs' T _ h, fun k hk => setRow_other w b k cs' hk⟩
def Fresh (M M' : PH) (n : Nat) : Prop := ∀ i, M i = none → M' i ≠ none → n ≤ i
theorem Fresh.refl (M : PH) (n : Nat) : Fresh M M n := fun _ h k => absurd h k
theorem St.call (h : St w0 w M O) {w' : World} {M' : PH} (hc : St w w' M' []) (hf : Fresh M M' w.heap.size) : St w0 w' M' O := by
  have old : ∀ (i : Nat) (x : Obj), w.heap[i]? = some x → w'.heap[i]? = some x := fun i x hx => by
    rw [hc.blk i (lt_of_get hx) (fun _ h => by cases h)]; exact hx
  refine ⟨hc.os.trans h.os, hc.tape.trans h.tape, hc.output.trans h.output, Nat.le_trans h.size hc.size, fun k hk hne => ?_, hc.on, fun x hx => ?_, h.nd⟩
  · rw [hc.blk k (Nat.lt_of_lt_of_le hk h.size) (fun _ h => by cases h)]
    exact h.blk k hk hne
  · obtain ⟨h1, h2⟩ := h.own x hx
    refine ⟨old _ _ h1, ?_⟩
    cases hm : M' x.1 with
    | none => rfl
    | some y =>
      have := hf x.1 h2 (by rw [hm]; simp)
      have := lt_of_get h1
      omega
theorem St.callO (h : St w0 w M O) {i b : Nat} {o o' : Obj} (hi : nth O i = some (b, o)) {w' : World} {M' : PH} (hc : St w w' M' [(b, o')]) (hf : Fresh M M' w.heap.size) : St w0 w' M' (upd O i o') := by
  have hb := h.own _ (nth_mem hi)
  have old : ∀ (i : Nat) (x : Obj), i ≠ b → w.heap[i]? = some x → w'.heap[i]? = some x := fun i x hne hx => by
    rw [hc.blk i (lt_of_get hx) (fun y hy => by simp at hy; subst hy; exact fun e => hne e.symm)]; exact hx
  have fr : ∀ j, M j = none → j < w.heap.size → M' j = none := fun j h1 h2 => by
    cases hm : M' j with
    | none => rfl
    | some y => have := hf j h1 (by rw [hm]; simp); omega
  refine ⟨hc.os.trans h.os, hc.tape.trans h.tape, hc.output.trans h.output, Nat.le_trans h.size hc.size, fun k hk hne => ?_, hc.on, fun x hx => ?_, by rw [upd_keys]; exact h.nd⟩
  · have hkeys : ∀ x ∈ O, x.1 ≠ k := fun x hx e => by
      have : k ∈ (upd O i o').map Prod.fst := by rw [upd_keys, ← e]; exact List.mem_map_of_mem hx
      obtain ⟨y, hy, hye⟩ := List.mem_map.1 this
      exact hne y hy hye
    rw [hc.blk k (Nat.lt_of_lt_of_le hk h.size) (fun y hy => by simp at hy; subst hy; exact hkeys (b, o) (nth_mem hi))]
    exact h.blk k hk hkeys
  · rcases mem_upd h.nd hi hx with rfl | ⟨h1, h2⟩
    · exact hc.own _ (by simp)
    · obtain ⟨h3, h4⟩ := h.own x h1
      exact ⟨old _ _ h2 h3, fr _ h4 (lt_of_get h3)⟩
theorem mem_rem {O : Owned} {i : Nat} {x : Nat × Obj} (h : x ∈ rem O i) : x ∈ O := by
  induction O generalizing i with
  | nil => simp [rem] at h
  | cons y r ih => cases i with
    | zero => exact List.mem_cons_of_mem _ h
    | succ i =>
      simp only [rem, List.mem_cons] at h
      rcases h with rfl | h
      · exact List.mem_cons_self
      · exact List.mem_cons_of_mem _ (ih h)
theorem rem_nodup {O : Owned} (i : Nat) (h : (O.map Prod.fst).Nodup) : ((rem O i).map Prod.fst).Nodup := by
  induction O generalizing i with
  | nil => simp [rem]
  | cons y r ih =>
    simp only [List.map_cons, List.nodup_cons] at h
    cases i with
    | zero => exact h.2
    | succ i =>
      simp only [rem, List.map_cons, List.nodup_cons]
      refine ⟨fun hm => h.1 ?_, ih i h.2⟩
      obtain ⟨x, hx, he⟩ := List.mem_map.1 hm
      exact he ▸ List.mem_map_of_mem (mem_rem hx)
theorem rem_ne {O : Owned} {i b : Nat} {o : Obj} (hnd : (O.map Prod.fst).Nodup) (h : nth O i = some (b, o)) {x : Nat × Obj} (hx : x ∈ rem O i) : x.1 ≠ b := by
  induction O generalizing i with
  | nil => simp [nth] at h
  | cons y r ih =>
    simp only [List.map_cons, List.nodup_cons] at hnd
    cases i with
    | zero =>
      simp only [nth, Option.some.injEq] at h
      subst h
      intro e
      have := List.mem_map_of_mem (f := Prod.fst) (show x ∈ r from hx)
      rw [e] at this
      exact hnd.1 this
    | succ i =>
      simp only [nth] at h
      simp only [rem, List.mem_cons] at hx
      rcases hx with rfl | hx
      · intro e
        have := List.mem_map_of_mem (f := Prod.fst) (nth_mem h)
        exact hnd.1 (by rw [e]; exact this)
      · exact ih hnd.2 h hx
def PH.add (M : PH) (b : Nat) (o : Obj) : PH := fun i => bif Nat.beq i b then some o else M i
theorem PH.add_self (M : PH) (b : Nat) (o : Obj) : M.add b o b = some o := by simp [PH.add]
theorem PH.add_ne (M : PH) {b i : Nat} (o : Obj) (h : i ≠ b) : M.add b o i = M i := by
  have : Nat.beq i b = false := by
    cases hb : Nat.beq i b with
    | true => exact absurd (Nat.eq_of_beq_eq_true hb) h
    | false => rfl
  simp [PH.add, this]
theorem PH.le_add {M : PH} {b : Nat} (o : Obj) (h : M b = none) : M.le (M.add b o) := fun i x hx => by
  rw [PH.add_ne M o fun e => by subst e; rw [h] at hx; cases hx]; exact hx
theorem St.freeze (h : St w0 w M O) {i b : Nat} {o : Obj} (hi : nth O i = some (b, o)) (hb : w0.heap.size ≤ b) : St w0 w (M.add b o) (rem O i) ∧ M.le (M.add b o) := by
  have hbo := h.own _ (nth_mem hi)
  refine ⟨⟨h.os, h.tape, h.output, h.size, fun k hk hne => ?_, fun j x hx => ?_, fun x hx => ?_, rem_nodup i h.nd⟩, PH.le_add o hbo.2⟩
  · refine h.blk k hk fun x hx e => ?_
    by_cases hxb : x.1 = b
    · omega
    · have : ∀ {O : Owned} {i : Nat}, nth O i = some (b, o) → x ∈ O → x.1 ≠ b → x ∈ rem O i := by
        intro O
        induction O with
        | nil => intro i _ hx; cases hx
        | cons y r ih =>
          intro i hi hx hne
          cases i with
          | zero =>
            simp only [nth, Option.some.injEq] at hi
            subst hi
            rcases List.mem_cons.1 hx with rfl | hx
            · exact absurd rfl hne
            · exact hx
          | succ i =>
            simp only [nth] at hi
            simp only [rem, List.mem_cons]
            rcases List.mem_cons.1 hx with rfl | hx
            · exact .inl rfl
            · exact .inr (ih hi hx hne)
      exact hne x (this hi hx hxb) e
  · by_cases hj : j = b
    · subst hj; rw [PH.add_self] at hx; cases hx; exact hbo.1
    · rw [PH.add_ne M o hj] at hx; exact h.on j x hx
  · have hm := mem_rem hx
    refine ⟨(h.own x hm).1, ?_⟩
    rw [PH.add_ne M o (rem_ne h.nd hi hx)]
    exact (h.own x hm).2
theorem St.drop (h : St w0 w M O) {i b : Nat} {o : Obj} (hi : nth O i = some (b, o)) (hb : w0.heap.size ≤ b) : St w0 w M (rem O i) := by
  obtain ⟨h1, h2⟩ := h.freeze hi hb
  exact ⟨h1.os, h1.tape, h1.output, h1.size, h1.blk, h.on, fun x hx => h.own x (mem_rem hx), h1.nd⟩
theorem St.known (h : St w0 w M O) {M' : PH} (hl : M'.le M) : St w0 w M' O :=
  ⟨h.os, h.tape, h.output, h.size, h.blk, fun i o x => h.on i o (hl i o x), fun x hx => ⟨(h.own x hx).1, by
    cases hm : M' x.1 with
    | none => rfl
    | some y => have := hl _ _ hm; rw [(h.own x hx).2] at this; cases this⟩, h.nd⟩
end
def Kept (w w' : World) : Prop := ∀ (k : Nat) (o : Obj), w.heap[k]? = some o → w'.heap[k]? = some o
theorem Kept.refl (w : World) : Kept w w := fun _ _ h => h
theorem Kept.trans {a b c : World} (h : Kept a b) (k : Kept b c) : Kept a c := fun i o x => k i o (h i o x)
theorem Kept.alloc (w : World) (o : Obj) : Kept w (w.alloc o) := fun i x h => by rw [alloc_old w o i (lt_of_get h)]; exact h
theorem Kept.drew (w : World) : Kept w w.drew := fun _ _ h => h
theorem St.kept {w w' : World} {M : PH} (h : St w w' M []) : Kept w w' := fun i x hx => by
  rw [h.blk i (lt_of_get hx) (fun _ h => by cases h)]; exact hx
theorem Kept.fresh {a c : World} (h : Kept a c) {b : Nat} (hn : c.heap[b]? = none) : a.heap[b]? = none := by
  cases hm : a.heap[b]? with
  | none => rfl
  | some o => have := h _ _ hm; rw [hn] at this; cases this
theorem Kept.put {a c d : World} (h : Kept a c) {b : Nat} {o : Obj} (hp : Put c d b o) (hn : a.heap[b]? = none) : Kept a d := fun i x hx => by
  rw [hp.other i fun e => by subst e; rw [hn] at hx; cases hx]; exact h i x hx
theorem new_none (w : World) : w.heap[w.heap.size]? = none := by simp
theorem Kept.cell {w w' : World} (h : Kept w w') {b j : Nat} {v : Value} (hc : w.cell? ⟨b, j, none⟩ = some v) : w'.cell? ⟨b, j, none⟩ = some v := by
  simp only [World.cell?] at *
  cases hb : w.heap[b]? with
  | none => simp [hb] at hc
  | some o => rw [h _ _ hb]; rw [hb] at hc; exact hc
def Ok (P : Program) (f : FuncId) (args : Array Value) (w : World) (M : PH) (Φ : PH → Value → Prop) : Prop :=
  Calls P f args w fun e w' => ∃ v M', e = .returned v ∧ St w w' M' [] ∧ M.le M' ∧ Fresh M M' w.heap.size ∧ Φ M' v
def OkO (P : Program) (f : FuncId) (args : Array Value) (w : World) (M : PH) (b : Nat) (Φ : PH → Obj → Value → Prop) : Prop :=
  Calls P f args w fun e w' => ∃ v M' o', e = .returned v ∧ St w w' M' [(b, o')] ∧ M.le M' ∧ Fresh M M' w.heap.size ∧ Φ M' o' v
theorem enterB {P : Program} {f : FuncId} {fn : Func} {c : Code} {l : List Value} {w : World} {M : PH} {Φ : PH → Value → Prop} (n : Nat)
    (hf : P.funcs[f]? = some fn) (hb : fn.body = some c) (hn : fn.ntmps = n) (hl : Nat.ble l.length n = true)
    (h : CW P n c (FQ P n fn fun v w' => ∃ M', St w w' M' [] ∧ M.le M' ∧ Fresh M M' w.heap.size ∧ Φ M' v) (args0 0 l) w) : Ok P f l.toArray w M Φ :=
  (enter n hf hb hn hl h).mono fun _ _ ⟨v, he, M', h1, h2, h3, h4⟩ => ⟨v, M', he, h1, h2, h3, h4⟩
theorem enterO {P : Program} {f : FuncId} {fn : Func} {c : Code} {l : List Value} {w : World} {M : PH} {b : Nat} {Φ : PH → Obj → Value → Prop} (n : Nat)
    (hf : P.funcs[f]? = some fn) (hb : fn.body = some c) (hn : fn.ntmps = n) (hl : Nat.ble l.length n = true)
    (h : CW P n c (FQ P n fn fun v w' => ∃ M' o', St w w' M' [(b, o')] ∧ M.le M' ∧ Fresh M M' w.heap.size ∧ Φ M' o' v) (args0 0 l) w) : OkO P f l.toArray w M b Φ :=
  (enter n hf hb hn hl h).mono fun _ _ ⟨v, he, M', o', h1, h2, h3, h4⟩ => ⟨v, M', o', he, h1, h2, h3, h4⟩
theorem On.st {M : PH} {w : World} (h : On M w) : St w w M [] := St.refl h
theorem On.st1 {M : PH} {w : World} (h : On M w) {b : Nat} {o : Obj} (hb : w.heap[b]? = some o) (hm : M b = none) : St w w M [(b, o)] :=
  St.start h (fun x hx => by
    have e : x = (b, o) := by simpa using hx
    rw [e]; exact ⟨hb, hm⟩) (by simp)
theorem fq_cell {P : Program} {n : Nat} {fn : Func} {R : Value → World → Prop} {L : Env} {w : World} {p b : Nat} {ty T : TypeId} {cs : Array Value} {d : TypeDesc} {fr : Nat × Nat} (hr : fn.results = #[.cell p ty]) (hp : L.get p = some (.pointer (some ⟨b, 0, none⟩)))
    (hb : w.heap[b]? = some (.cells cs T fr)) (hu : P.underlying ty = some d) (hd : (match d with | .struct _ | .array _ _ => true | _ => false) = true) (hs : (P.info? ty).map (·.size) = some cs.size) (h : R (.agg cs) w) : FQ P n fn R .ret L w :=
  ⟨_, fun a ha => results_cell_row hr a.tmps w b T cs fr d (by have := ha.has p _ hp; simp [this]) hb hu hd hs, h⟩
theorem fq_cell_tmp {P : Program} {n : Nat} {fn : Func} {R : Value → World → Prop} {L : Env} {w : World} {p b t : Nat} {ty T : TypeId} {cs : Array Value} {d : TypeDesc} {fr : Nat × Nat} {v : Value} (hr : fn.results = #[.cell p ty, .tmp t]) (hp : L.get p = some (.pointer (some ⟨b, 0, none⟩))) (hv : L.get t = some v)
    (hb : w.heap[b]? = some (.cells cs T fr)) (hu : P.underlying ty = some d) (hd : (match d with | .struct _ | .array _ _ => true | _ => false) = true) (hs : (P.info? ty).map (·.size) = some cs.size) (h : R (.tuple #[.agg cs, v]) w) : FQ P n fn R .ret L w :=
  ⟨_, fun a ha => by
    have h1 := run_loadVar_row (P := P) w b T ty cs fr d hb hu hd hs
    simp [results, hr, ha.has p _ hp, ha.has t v hv, asAddr, h1], h⟩
theorem fq_tmp_cell_tmp {P : Program} {n : Nat} {fn : Func} {R : Value → World → Prop} {L : Env} {w : World} {p b t t' : Nat} {ty T : TypeId} {cs : Array Value} {d : TypeDesc} {fr : Nat × Nat} {v v' : Value} (hr : fn.results = #[.tmp t', .cell p ty, .tmp t]) (hv' : L.get t' = some v') (hp : L.get p = some (.pointer (some ⟨b, 0, none⟩))) (hv : L.get t = some v)
    (hb : w.heap[b]? = some (.cells cs T fr)) (hu : P.underlying ty = some d) (hd : (match d with | .struct _ | .array _ _ => true | _ => false) = true) (hs : (P.info? ty).map (·.size) = some cs.size) (h : R (.tuple #[v', .agg cs, v]) w) : FQ P n fn R .ret L w :=
  ⟨_, fun a ha => by
    have h1 := run_loadVar_row (P := P) w b T ty cs fr d hb hu hd hs
    simp [results, hr, ha.has p _ hp, ha.has t v hv, ha.has t' v' hv', asAddr, h1], h⟩
end Go.E
set_option linter.unusedVariables false
set_option linter.unusedSimpArgs false
namespace Go.E
open Go
section
variable {P : Program} {n : Nat} {L : Env} {w : World} {o : Oper} {x y : Operand} {t t2 : TypeId}
theorem Res.move {v : Value} (ho : o.op = .move x) (hx : L.ev x = some v) : Res P o L w v := fun n a ha => by
  unfold execOp; simp only [ho, ha.ev hx]; rfl
theorem Res.assign {v : Value} (ho : o.op = .assign x) (hx : L.ev x = some v) : Res P o L w v := fun n a ha => by
  unfold execOp; simp only [ho, ha.ev hx]; rfl
theorem Res.pick {c p q : Operand} {b : Bool} {u v : Value} (ho : o.op = .pick c p q) (hc : L.ev c = some (.bool b)) (hp : L.ev p = some u) (hq : L.ev q = some v) : Res P o L w (bif b then u else v) := fun n a ha => by
  unfold execOp; simp only [ho, ha.ev hc, ha.ev hp, ha.ev hq, asBool]; cases b <;> rfl
theorem Res.pickT {c p q : Operand} {v : Value} (ho : o.op = .pick c p q) (hc : L.ev c = some (.bool true)) (hp : L.ev p = some v) : Res P o L w v := fun n a ha => by
  unfold execOp; simp only [ho, ha.ev hc, ha.ev hp, asBool]; rfl
theorem Res.pickF {c p q : Operand} {v : Value} (ho : o.op = .pick c p q) (hc : L.ev c = some (.bool false)) (hq : L.ev q = some v) : Res P o L w v := fun n a ha => by
  unfold execOp; simp only [ho, ha.ev hc, ha.ev hq, asBool]; rfl
theorem Res.not {op : UnOp} {b : Bool} (ho : o.op = .unOp op t x) (hop : op = .not) (hx : L.ev x = some (.bool b)) : Res P o L w (.bool (!b)) := fun n a ha => by
  subst hop; unfold execOp; simp only [ho, ha.ev hx, Op.unary]; rfl
theorem wrap_i64 {a : Int} (h : -9223372036854775808 ≤ a ∧ a ≤ 9223372036854775807) : IntKind.i64.wrap a = a := by
  simp only [IntKind.wrap, IntKind.bits, IntKind.signed]
  simp only [Bool.true_and]
  by_cases hc : a % 2 ^ 64 ≥ 2 ^ (64 - 1)
  · simp only [hc, decide_true, if_true]; omega
  · simp only [hc, decide_false, Bool.false_eq_true, if_false]; omega
theorem run_bin {op : BinOp} {u v r : Value} {a : Act} (ho : o.op = .binOp op t x y t2) (hx : a.eval x = u) (hy : a.eval y = v)
    (hg : (eqGuard op t x y u v).run P w = .ok () w) (h : (binOp op t u v).run P w = .ok r w) : (execOp a.eval o).run P w = .ok (.value r) w := by
  unfold execOp
  simp only [ho, hx, hy, Sem.run_bind, hg, h, Result.andThen_ok, Sem.run_pure]
section
variable {a b : Int}
theorem Res.add (ho : o.op = .binOp .add t x y t2) (hx : L.ev x = some (.int .i64 a)) (hy : L.ev y = some (.int .i64 b))
    (h : -9223372036854775808 ≤ a + b ∧ a + b ≤ 9223372036854775807) : Res P o L w (.int .i64 (a + b)) := fun n c hc =>
  run_bin ho (hc.ev hx) (hc.ev hy) rfl (by simp [binOp, Op.intArith, wrap_i64 h])
theorem Res.sub (ho : o.op = .binOp .sub t x y t2) (hx : L.ev x = some (.int .i64 a)) (hy : L.ev y = some (.int .i64 b))
    (h : -9223372036854775808 ≤ a - b ∧ a - b ≤ 9223372036854775807) : Res P o L w (.int .i64 (a - b)) := fun n c hc =>
  run_bin ho (hc.ev hx) (hc.ev hy) rfl (by simp [binOp, Op.intArith, wrap_i64 h])
theorem Res.mul (ho : o.op = .binOp .mul t x y t2) (hx : L.ev x = some (.int .i64 a)) (hy : L.ev y = some (.int .i64 b))
    (h : -9223372036854775808 ≤ a * b ∧ a * b ≤ 9223372036854775807) : Res P o L w (.int .i64 (a * b)) := fun n c hc =>
  run_bin ho (hc.ev hx) (hc.ev hy) rfl (by simp [binOp, Op.intArith, wrap_i64 h])
theorem Res.quo (ho : o.op = .binOp .quo t x y t2) (hx : L.ev x = some (.int .i64 a)) (hy : L.ev y = some (.int .i64 b))
    (h : 0 ≤ a ∧ a ≤ 9223372036854775807 ∧ 0 < b) : Res P o L w (.int .i64 (a / b)) := fun n c hc =>
  run_bin ho (hc.ev hx) (hc.ev hy) rfl (by
    have h1 : a.tdiv b = a / b := Int.tdiv_eq_ediv_of_nonneg h.1
    have h2 : 0 ≤ a / b := Int.ediv_nonneg h.1 (by omega)
    have h3 : a / b ≤ a := Int.ediv_le_self b h.1
    have hb : ¬ b = 0 := by omega
    simp [binOp, Op.intDiv, hb, h1, wrap_i64 (a := a / b) (by omega)])
theorem Res.rem (ho : o.op = .binOp .rem t x y t2) (hx : L.ev x = some (.int .i64 a)) (hy : L.ev y = some (.int .i64 b))
    (h : 0 ≤ a ∧ 0 < b) : Res P o L w (.int .i64 (a % b)) := fun n c hc =>
  run_bin ho (hc.ev hx) (hc.ev hy) rfl (by
    have h1 : a.tmod b = a % b := Int.tmod_eq_emod_of_nonneg h.1
    have hb : ¬ b = 0 := by omega
    simp [binOp, Op.intDiv, hb, h1])
theorem Res.lss {k : IntKind} (ho : o.op = .binOp .lss t x y t2) (hx : L.ev x = some (.int k a)) (hy : L.ev y = some (.int k b)) : Res P o L w (.bool (decide (a < b))) := fun n c hc =>
  run_bin ho (hc.ev hx) (hc.ev hy) rfl (by simp [binOp, Op.intCmp])
theorem Res.leq {k : IntKind} (ho : o.op = .binOp .leq t x y t2) (hx : L.ev x = some (.int k a)) (hy : L.ev y = some (.int k b)) : Res P o L w (.bool (decide (a ≤ b))) := fun n c hc =>
  run_bin ho (hc.ev hx) (hc.ev hy) rfl (by simp [binOp, Op.intCmp])
theorem Res.gtr {k : IntKind} (ho : o.op = .binOp .gtr t x y t2) (hx : L.ev x = some (.int k a)) (hy : L.ev y = some (.int k b)) : Res P o L w (.bool (decide (b < a))) := fun n c hc =>
  run_bin ho (hc.ev hx) (hc.ev hy) rfl (by simp [binOp, Op.intCmp])
theorem Res.geq {k : IntKind} (ho : o.op = .binOp .geq t x y t2) (hx : L.ev x = some (.int k a)) (hy : L.ev y = some (.int k b)) : Res P o L w (.bool (decide (b ≤ a))) := fun n c hc =>
  run_bin ho (hc.ev hx) (hc.ev hy) rfl (by simp [binOp, Op.intCmp])
theorem Res.eql {k : IntKind} (ho : o.op = .binOp .eql t x y t2) (hx : L.ev x = some (.int k a)) (hy : L.ev y = some (.int k b)) : Res P o L w (.bool (decide (a = b))) := fun n c hc =>
  run_bin ho (hc.ev hx) (hc.ev hy) (by simp [eqGuard]) (by simp [binOp, Op.intCmp]; rfl)
theorem Res.neq {k : IntKind} (ho : o.op = .binOp .neq t x y t2) (hx : L.ev x = some (.int k a)) (hy : L.ev y = some (.int k b)) : Res P o L w (.bool (decide (¬ a = b))) := fun n c hc =>
  run_bin ho (hc.ev hx) (hc.ev hy) (by simp [eqGuard]) (by simp [binOp, Op.intCmp]; by_cases h : a = b <;> simp [h])
end
def byte (x : UInt8) : Value := .int .u8 (x.toNat : Int)
theorem wrap_u8 (x : Nat) : IntKind.u8.wrap (x : Int) = ((UInt8.ofNat x).toNat : Int) := by
  simp [IntKind.wrap, IntKind.bits, IntKind.signed]
section
variable {a b : UInt8}
theorem Res.addB (b : UInt8) (ho : o.op = .binOp .add t x y t2) (hx : L.ev x = some (byte a)) (hy : L.ev y = some (byte b)) : Res P o L w (byte (a + b)) := fun n c hc =>
  run_bin ho (hc.ev hx) (hc.ev hy) rfl (by
    have : ((a.toNat : Int) + (b.toNat : Int)) = ((a.toNat + b.toNat : Nat) : Int) := by simp
    simp only [byte, binOp, Op.intArith, ne_eq, not_true_eq_false, if_false, Sem.run_pure, this, wrap_u8]
    simp)
theorem Res.mulB (b : UInt8) (ho : o.op = .binOp .mul t x y t2) (hx : L.ev x = some (byte a)) (hy : L.ev y = some (byte b)) : Res P o L w (byte (a * b)) := fun n c hc =>
  run_bin ho (hc.ev hx) (hc.ev hy) rfl (by
    have : ((a.toNat : Int) * (b.toNat : Int)) = ((a.toNat * b.toNat : Nat) : Int) := by simp
    simp only [byte, binOp, Op.intArith, ne_eq, not_true_eq_false, if_false, Sem.run_pure, this, wrap_u8]
    simp)
theorem ofInt_byte (x : UInt8) : BitVec.ofInt 8 (x.toNat : Int) = x.toBitVec := by
  apply BitVec.eq_of_toNat_eq
  simp [BitVec.toNat_ofInt]
theorem back_byte (r : BitVec 8) : IntKind.u8.wrap (r.toNat : Int) = ((UInt8.ofBitVec r).toNat : Int) := by
  rw [wrap_u8]
  simp
theorem Res.xorB (b : UInt8) (ho : o.op = .binOp .xor t x y t2) (hx : L.ev x = some (byte a)) (hy : L.ev y = some (byte b)) : Res P o L w (byte (a ^^^ b)) := fun n c hc =>
  run_bin ho (hc.ev hx) (hc.ev hy) rfl (by
    simp only [byte, binOp, Op.intBits, ne_eq, not_true_eq_false, if_false, Sem.run_pure, IntKind.bits, ofInt_byte, back_byte]
    rfl)
theorem Res.andB (b : UInt8) (ho : o.op = .binOp .and t x y t2) (hx : L.ev x = some (byte a)) (hy : L.ev y = some (byte b)) : Res P o L w (byte (a &&& b)) := fun n c hc =>
  run_bin ho (hc.ev hx) (hc.ev hy) rfl (by
    simp only [byte, binOp, Op.intBits, ne_eq, not_true_eq_false, if_false, Sem.run_pure, IntKind.bits, ofInt_byte, back_byte]
    rfl)
theorem Res.shlB (k : Nat) (ho : o.op = .binOp .shl t x y t2) (hx : L.ev x = some (byte a)) {kk : IntKind} (hy : L.ev y = some (.int kk k)) (hk : k < 8) : Res P o L w (byte (UInt8.ofNat (a.toNat * 2 ^ k))) := fun n c hc =>
  run_bin ho (hc.ev hx) (hc.ev hy) rfl (by
    have h1 : ¬ ((k : Int) < 0) := by omega
    have h2 : min (k : Int).toNat 8 = k := by simp; omega
    have h3 : ((a.toNat : Int) * 2 ^ k) = ((a.toNat * 2 ^ k : Nat) : Int) := by simp
    simp only [byte, binOp, Op.shift, h1, if_false, Sem.run_pure, IntKind.bits, h2, h3, wrap_u8])
theorem Res.shrB (k : Nat) (ho : o.op = .binOp .shr t x y t2) (hx : L.ev x = some (byte a)) {kk : IntKind} (hy : L.ev y = some (.int kk k)) (hk : k < 8) : Res P o L w (byte (UInt8.ofNat (a.toNat / 2 ^ k))) := fun n c hc =>
  run_bin ho (hc.ev hx) (hc.ev hy) rfl (by
    have h1 : ¬ ((k : Int) < 0) := by omega
    have h2 : min (k : Int).toNat 8 = k := by simp; omega
    have h3 : (a.toNat : Int).fdiv (2 ^ k) = ((a.toNat / 2 ^ k : Nat) : Int) := by
      have : (2 : Int) ^ k = ((2 ^ k : Nat) : Int) := by simp
      rw [this, Int.fdiv_eq_ediv_of_nonneg _ (Int.natCast_nonneg _)]
      simp
    have h4 : a.toNat / 2 ^ k < 256 := Nat.lt_of_le_of_lt (Nat.div_le_self _ _) a.toNat_lt
    simp only [byte, binOp, Op.shift, h1, if_false, Sem.run_pure, IntKind.bits, h2, h3]
    have : (UInt8.ofNat (a.toNat / 2 ^ k)).toNat = a.toNat / 2 ^ k := by simp; omega
    rw [this])
theorem Res.quoB (b : UInt8) (ho : o.op = .binOp .quo t x y t2) (hx : L.ev x = some (byte a)) (hy : L.ev y = some (byte b)) (hb : 0 < b.toNat) : Res P o L w (byte (a / b)) := fun n c hc =>
  run_bin ho (hc.ev hx) (hc.ev hy) rfl (by
    have h0 : ¬ ((b.toNat : Int) = 0) := by omega
    have h1 : (a.toNat : Int).tdiv (b.toNat : Int) = ((a.toNat / b.toNat : Nat) : Int) := by
      rw [Int.tdiv_eq_ediv_of_nonneg (by omega)]; simp
    simp only [byte, binOp, Op.intDiv, h0, h1, ne_eq, not_true_eq_false, if_false, Sem.run_pure, wrap_u8]
    have h4 : a.toNat / b.toNat < 256 := Nat.lt_of_le_of_lt (Nat.div_le_self _ _) a.toNat_lt
    have : (UInt8.ofNat (a.toNat / b.toNat)).toNat = (a / b).toNat := by simp; omega
    rw [this])
theorem Res.neqB (b : UInt8) (ho : o.op = .binOp .neq t x y t2) (hx : L.ev x = some (byte a)) (hy : L.ev y = some (byte b)) : Res P o L w (.bool (decide (¬ a = b))) := fun n c hc =>
  run_bin ho (hc.ev hx) (hc.ev hy) (by simp [eqGuard, byte]) (by
    have : ((a.toNat : Int) != (b.toNat : Int)) = decide (¬ a = b) := by
      by_cases h : a = b
      · subst h; simp
      · have : ¬ (a.toNat : Int) = (b.toNat : Int) := fun e => h (UInt8.toNat_inj.1 (by omega))
        simp [h, this]
    simp only [byte, binOp, Op.intCmp, ne_eq, not_true_eq_false, if_false, Sem.run_pure, this])
end
theorem run_equalIn_bool (d : Nat) {a b : Bool} (ht : P.underlying t = some .bool) : (Op.equalIn (d + 1) t (.bool a) (.bool b)).run P w = .ok (a == b) w := by simp [Op.equalIn, run_underlying ht]
theorem run_equal_bool {a b : Bool} (ht : P.underlying t = some .bool) : (Op.equal t (.bool a) (.bool b)).run P w = .ok (a == b) w := run_equalIn_bool 9999 ht
theorem Res.eqlBool {a b : Bool} (ho : o.op = .binOp .eql t x y t2) (hx : L.ev x = some (.bool a)) (hy : L.ev y = some (.bool b)) (ht : P.underlying t = some .bool) : Res P o L w (.bool (a == b)) := fun n c hc =>
  run_bin ho (hc.ev hx) (hc.ev hy) (by simp [eqGuard]) (by
    simp only [binOp, Sem.run_bind, run_equal_bool ht, Result.andThen_ok, Sem.run_pure])
theorem Res.convB {s d : TypeId} {k' : IntKind} {k : Nat} {u : TypeDesc} (ho : o.op = .convert s d x) (hx : L.ev x = some (.int k' (k : Int))) (hs : P.underlying s = some u) (hd : P.underlying d = some (.int .u8)) : Res P o L w (byte (UInt8.ofNat k)) := fun n c hc => by
  unfold execOp
  simp only [ho, hc.ev hx, convert, Sem.run_bind, run_underlying hs, run_underlying hd, Result.andThen_ok, Conv.intToInt, Sem.run_pure, wrap_u8]
  rfl
theorem Res.conv {s d : TypeId} {k k' : IntKind} {a : Int} {u : TypeDesc} (ho : o.op = .convert s d x) (hx : L.ev x = some (.int k' a)) (hs : P.underlying s = some u) (hd : P.underlying d = some (.int k)) : Res P o L w (.int k (k.wrap a)) := fun n c hc => by
  unfold execOp
  simp only [ho, hc.ev hx, convert, Sem.run_bind, run_underlying hs, run_underlying hd, Result.andThen_ok, Conv.intToInt, Sem.run_pure]
abbrev SZ (P : Program) (t : TypeId) (k : Nat) : Prop := (P.info? t).map (·.size) = some k
theorem run_sizeOf {k : Nat} (h : SZ P t k) (w : World) : (sizeOf t).run P w = .ok k w := by
  cases hq : P.info? t with
  | none => simp [SZ, hq] at h
  | some i => simp [SZ, hq] at h; simp [sizeOf, typeInfo, hq, h]
def aggD : TypeDesc → Bool
  | .struct _ | .array _ _ => true
  | _ => false
theorem run_isAgg {d : TypeDesc} (h : P.underlying t = some d) (w : World) : (isAgg t).run P w = .ok (aggD d) w := by
  unfold isAgg
  rw [Sem.run_bind, run_underlying h]
  cases d <;> rfl
theorem addr_add (b i k : Nat) : (⟨b, i, none⟩ : Addr).add k = ⟨b, i + k, none⟩ := by unfold Addr.add; split <;> simp_all
theorem cell_of {b j : Nat} {cs : Array Value} {T : TypeId} {fr : Nat × Nat} (h : w.heap[b]? = some (.cells cs T fr)) : w.cell? ⟨b, j, none⟩ = cs[j]? := by
  simp [World.cell?, h]
theorem Res.load1 {d : TypeDesc} {b i : Nat} {v : Value} (ho : o.op = .load t x) (hx : L.ev x = some (.pointer (some ⟨b, i, none⟩))) (hd : P.underlying t = some d) (ha : aggD d = false)
    (hv : w.cell? ⟨b, i, none⟩ = some v) : Res P o L w v := fun n a hfa => by
  unfold execOp
  simp only [ho, hfa.ev hx, Instr.loadAt, Instr.sureAddr, Sem.run_bind, Sem.run_pure, Result.andThen_ok, loadVar, run_isAgg hd, ha, Bool.false_eq_true, if_false, run_load, hv]
theorem Res.loadN {d : TypeDesc} {b i k : Nat} {r : List Value} (ho : o.op = .load t x) (hx : L.ev x = some (.pointer (some ⟨b, i, none⟩))) (hd : P.underlying t = some d) (ha : aggD d = true)
    (hs : SZ P t k) (hr : r.length = k) (hv : ∀ j u, r[j]? = some u → w.cell? ⟨b, i + j, none⟩ = some u) : Res P o L w (.agg r.toArray) := fun n a hfa => by
  have hl : (loadCells ⟨b, i, none⟩ r.length).run P w = .ok r.toArray w :=
    run_loadCells_list (P := P) w ⟨b, i, none⟩ r (fun j v hj => by rw [addr_add]; exact hv j v hj)
  rw [hr] at hl
  unfold execOp
  simp only [ho, hfa.ev hx, Instr.loadAt, Instr.sureAddr, Sem.run_bind, Sem.run_pure, Result.andThen_ok, loadVar, run_isAgg hd, ha, if_true, run_sizeOf hs, hl]
theorem Res.loadAll {d : TypeDesc} {b : Nat} {cs : Array Value} {T : TypeId} {fr : Nat × Nat} (ho : o.op = .load t x) (hx : L.ev x = some (.pointer (some ⟨b, 0, none⟩))) (hd : P.underlying t = some d) (ha : aggD d = true)
    (hs : SZ P t cs.size) (hb : w.heap[b]? = some (.cells cs T fr)) : Res P o L w (.agg cs) := by
  have := Res.loadN (P := P) (o := o) (L := L) (w := w) (i := 0) (r := cs.toList) ho hx hd ha hs (by simp) (fun j u hj => by rw [cell_of hb]; simpa using hj)
  simpa using this
theorem run_zeroValue {v : Value} (h : (P.info? t).map (·.zero) = some (some v)) (w : World) : (zeroValue t).run P w = .ok v w := by
  cases hq : P.info? t with
  | none => simp [hq] at h
  | some i => simp [hq] at h; simp [zeroValue, typeInfo, hq, h]
section
variable {w0 : World} {M : PH} {O : Owned} {K : Env → World → Prop}
theorem Stp.alloc {d : Nat} {z : Value} {cs : Array Value} (ho : o.op = .alloc t) (hz : (P.info? t).map (·.zero) = some (some z)) (hc : z.cells = cs) (hd : o.dst = some d) (hn : Nat.blt d n = true) (hS : St w0 w M O)
    (h : ∀ b w', w0.heap.size ≤ b → St w0 w' M ((b, .cells cs t (0, 0)) :: O) → Kept w w' → w.heap[b]? = none → K ((d, .pointer (some ⟨b, 0, none⟩)) :: L) w') : Stp P n o L w K :=
  Stp.resW (w' := w.alloc (.cells cs t (0, 0))) hd hn (fun n a ha => by
    unfold execOp
    simp only [ho, Instr.alloc, Sem.run_bind, run_zeroValue hz, Result.andThen_ok, newVar, newRow, run_newObj, Sem.run_pure, hc]
    rfl) (h _ _ hS.size (hS.alloc _) (Kept.alloc _ _) (new_none _))
theorem Stp.box {d : Nat} {v : Value} {cs : Array Value} (ho : o.op = .box t x) (hx : L.ev x = some v) (hc : v.cells = cs) (hd : o.dst = some d) (hn : Nat.blt d n = true) (hS : St w0 w M O)
    (h : ∀ b w', w0.heap.size ≤ b → St w0 w' M ((b, .cells cs t (0, 0)) :: O) → Kept w w' → w.heap[b]? = none → K ((d, .pointer (some ⟨b, 0, none⟩)) :: L) w') : Stp P n o L w K :=
  Stp.resW (w' := w.alloc (.cells cs t (0, 0))) hd hn (fun n a ha => by
    unfold execOp
    simp only [ho, ha.ev hx, Instr.box, Sem.run_bind, Result.andThen_ok, newVar, newRow, run_newObj, Sem.run_pure, hc]
    rfl) (h _ _ hS.size (hS.alloc _) (Kept.alloc _ _) (new_none _))
theorem Stp.boxA {d : Nat} {cs : Array Value} (ho : o.op = .box t x) (hx : L.ev x = some (.agg cs)) (hd : o.dst = some d) (hn : Nat.blt d n = true) (hS : St w0 w M O)
    (h : ∀ b w', w0.heap.size ≤ b → St w0 w' M ((b, .cells cs t (0, 0)) :: O) → Kept w w' → w.heap[b]? = none → K ((d, .pointer (some ⟨b, 0, none⟩)) :: L) w') : Stp P n o L w K :=
  Stp.box ho hx rfl hd hn hS h
theorem Stp.store1 (i : Nat) {b j : Nat} {cs : Array Value} {T : TypeId} {v : Value} (ho : o.op = .store t x y) (hx : L.ev x = some (.pointer (some ⟨b, j, none⟩))) (hy : L.ev y = some v) (hs : SZ P t 1) (h1 : v.oneCell' = true)
    (hd : o.dst = none) (hS : St w0 w M O) (hi : nth O i = some (b, .cells cs T (0, 0))) (hj : j < cs.size)
    (h : ∀ w', St w0 w' M (upd O i (.cells (cs.setIfInBounds j v) T (0, 0))) → Put w w' b (.cells (cs.setIfInBounds j v) T (0, 0)) → K L w') : Stp P n o L w K :=
  have hb := hS.get hi
  Stp.unitW (w' := w.setCell ⟨b, j, none⟩ v) hd (fun n a ha => by
    have hc : v.cells = #[v] := by cases v <;> first | rfl | (simp [Value.oneCell'] at h1; done)
    have hst : (store ⟨b, j, none⟩ v).run P w = .ok () (w.setCell ⟨b, j, none⟩ v) := by
      have hcell : w.cell? ⟨b, j, none⟩ = some cs[j] := by rw [cell_of hb]; simp [hj]
      have hfro : w.frozen? ⟨b, j, none⟩ = false := by simp [World.frozen?, hb]
      rw [run_store P w _ v _ h1, hcell]; simp [hfro]
    unfold execOp
    simp only [ho, ha.ev hx, ha.ev hy, Instr.storeAt, Instr.sureAddr, Sem.run_bind, Sem.run_pure, Result.andThen_ok, storeVar, run_sizeOf hs, hc]
    simp only [List.size_toArray, List.length_cons, List.length_nil, Nat.zero_add, ne_eq, not_true_eq_false, if_false, storeCells, addr_add, Nat.add_zero, Sem.run_bind, hst, Result.andThen_ok, Sem.run_pure]) (h _ (hS.put hi (put_setCell v hb)) (put_setCell v hb))
theorem Stp.storeN (i : Nat) {b j k : Nat} {cs r : Array Value} {T : TypeId} (ho : o.op = .store t x y) (hx : L.ev x = some (.pointer (some ⟨b, j, none⟩))) (hy : L.ev y = some (.agg r)) (hs : SZ P t k) (hk : r.size = k) (h1 : ∀ v ∈ r.toList, v.oneCell' = true)
    (hd : o.dst = none) (hS : St w0 w M O) (hi : nth O i = some (b, .cells cs T (0, 0))) (hj : j + k ≤ cs.size)
    (h : ∀ w', St w0 w' M (upd O i (.cells (cs.toList.take j ++ r.toList ++ cs.toList.drop (j + k)).toArray T (0, 0))) → Put w w' b (.cells (cs.toList.take j ++ r.toList ++ cs.toList.drop (j + k)).toArray T (0, 0)) → K L w') : Stp P n o L w K :=
  have hb := hS.get hi
  Stp.unitW (w' := w.setRow b (cs.toList.take j ++ r.toList ++ cs.toList.drop (j + k)).toArray) hd (fun n a ha => by
    have hst := run_storeCells_at (P := P) b j T r.toList 0 cs w hb (by simp; omega) h1
    simp only [Nat.add_zero, Array.length_toList, hk] at hst
    unfold execOp
    simp only [ho, ha.ev hx, ha.ev hy, Instr.storeAt, Instr.sureAddr, Sem.run_bind, Sem.run_pure, Result.andThen_ok, storeVar, run_sizeOf hs, Value.cells, hk]
    simp only [ne_eq, not_true_eq_false, if_false, hst, Result.andThen_ok]) (h _ (hS.put hi (put_setRow hb)) (put_setRow hb))
theorem Stp.storeAll (i : Nat) {b : Nat} {cs r : Array Value} {T : TypeId} (ho : o.op = .store t x y) (hx : L.ev x = some (.pointer (some ⟨b, 0, none⟩))) (hy : L.ev y = some (.agg r)) (hs : SZ P t r.size) (h1 : ∀ v ∈ r.toList, v.oneCell' = true)
    (hd : o.dst = none) (hS : St w0 w M O) (hi : nth O i = some (b, .cells cs T (0, 0))) (hk : cs.size = r.size)
    (h : ∀ w', St w0 w' M (upd O i (.cells r T (0, 0))) → Put w w' b (.cells r T (0, 0)) → K L w') : Stp P n o L w K := by
  refine Stp.storeN i ho hx hy hs rfl h1 hd hS hi (by omega) fun w' hw hp => ?_
  have : (cs.toList.take 0 ++ r.toList ++ cs.toList.drop (0 + r.size)).toArray = r := by
    rw [List.drop_eq_nil_of_le (by simp; omega)]; simp
  rw [this] at hw hp
  exact h w' hw hp
def Callable (P : Program) (f : FuncId) : Prop := ∃ fn, P.funcs[f]? = some fn ∧ fn.body.isSome = true ∧ (fn.name == "runtime.NumGoroutine") = false
theorem Stp.call {c : Call} {f : FuncId} {args : List Value} {d : Nat} {R : Ending → World → Prop} (ho : o.op = .call c) (hf : c.callee = .value (.func f)) (ha : c.args.toList.map L.ev = args.map some)
    (hcl : Callable P f) (hd : o.dst = some d) (hn : Nat.blt d n = true)
    (hc : Calls P f args.toArray w R) (h : ∀ e w', R e w' → ∃ v, e = .returned v ∧ K ((d, v) :: L) w') : Stp P n o L w K := fun a hfa Q => by
  obtain ⟨fn, hfn, hb, hm⟩ := hcl
  unfold Oper.wp
  have hargs : c.args.map a.eval = args.toArray := by
    apply Array.toList_inj.1
    simp only [Array.toList_map]
    have : ∀ (l : List Operand) (r : List Value), l.map L.ev = r.map some → l.map a.eval = r := by
      intro l
      induction l with
      | nil => intro r hr; cases r with
        | nil => rfl
        | cons => simp at hr
      | cons y l ih => intro r hr; cases r with
        | nil => simp at hr
        | cons v r =>
          simp only [List.map_cons, List.cons.injEq] at hr
          rw [List.map_cons, hfa.ev hr.1, ih r hr.2]
    exact this _ _ ha
  have hrun : (execOp a.eval o).run P w = .ok (.enter f args.toArray) w := by
    unfold execOp
    simp only [ho, resolve, hargs, hf, Act.eval, Deferred.ofValue, Sem.run_bind, Sem.run_pure, Result.andThen_ok, invoke, callFunc, run_program, hfn, hm, Bool.false_eq_true, if_false]
    cases hbb : fn.body with
    | none => simp [hbb] at hb
    | some _ => simp
  rw [hrun]
  simp only [Oper.upon]
  refine hc.mono fun e w' he => ?_
  obtain ⟨v, rfl, hk⟩ := h e w' he
  simp only [hd]
  exact ⟨_, hfa.put (blt_lt hn) v, hk⟩
theorem Stp.callA {c : Call} {f : FuncId} {args : List Value} {d : Nat} {r : Value} (ho : o.op = .call c) (hf : c.callee = .value (.func f)) (ha : c.args.toList.map L.ev = args.map some)
    (hcl : Callable P f) (hd : o.dst = some d) (hn : Nat.blt d n = true)
    (hc : Calls P f args.toArray w fun e w' => ∃ v, e = .returned v ∧ v = r ∧ w' = w) (h : K ((d, r) :: L) w) : Stp P n o L w K :=
  Stp.call ho hf ha hcl hd hn hc fun e w' ⟨v, he, hv, hw⟩ => ⟨v, he, by rw [hv, hw]; exact h⟩
theorem Stp.callB {c : Call} {f : FuncId} {args : List Value} {d : Nat} {Φ : PH → Value → Prop} (ho : o.op = .call c) (hf : c.callee = .value (.func f)) (ha : c.args.toList.map L.ev = args.map some)
    (hcl : Callable P f) (hd : o.dst = some d) (hn : Nat.blt d n = true) (hS : St w0 w M O)
    (hc : Ok P f args.toArray w M Φ) (h : ∀ v w' M', St w0 w' M' O → M.le M' → Fresh M M' w.heap.size → Kept w w' → Φ M' v → K ((d, v) :: L) w') : Stp P n o L w K :=
  Stp.call ho hf ha hcl hd hn hc fun e w' ⟨v, M', he, hw, hl, hfr, hp⟩ => ⟨v, he, h v w' M' (hS.call hw hfr) hl hfr hw.kept hp⟩
theorem Stp.callO (i : Nat) {c : Call} {f : FuncId} {args : List Value} {d b : Nat} {ob : Obj} {Φ : PH → Obj → Value → Prop} (ho : o.op = .call c) (hf : c.callee = .value (.func f)) (ha : c.args.toList.map L.ev = args.map some)
    (hcl : Callable P f) (hd : o.dst = some d) (hn : Nat.blt d n = true) (hS : St w0 w M O) (hi : nth O i = some (b, ob))
    (hc : OkO P f args.toArray w M b Φ) (h : ∀ v w' M' o', St w0 w' M' (upd O i o') → M.le M' → Fresh M M' w.heap.size → w.heap.size ≤ w'.heap.size → Φ M' o' v → K ((d, v) :: L) w') : Stp P n o L w K :=
  Stp.call ho hf ha hcl hd hn hc fun e w' ⟨v, M', o', he, hw, hl, hfr, hp⟩ => ⟨v, he, h v w' M' o' (hS.callO hi hw hfr) hl hfr hw.size hp⟩
end
theorem Res.nilCheck {a : Addr} (ho : o.op = .nilCheck x) (hx : L.ev x = some (.pointer (some a))) : Res P o L w (.pointer (some a)) := fun n c hc => by
  unfold execOp; simp only [ho, hc.ev hx]; rfl
theorem Res.idxA {e : TypeId} {len b j k : Nat} {i : Int} {kk : IntKind} (sz : Nat) (ho : o.op = .indexAddr t x y) (hx : L.ev x = some (.pointer (some ⟨b, j, none⟩))) (hy : L.ev y = some (.int kk i)) (ht : P.underlying t = some (.array len e)) (hs : SZ P e sz)
    (hk : i.toNat = k) (hi : 0 ≤ i ∧ i < len) : Res P o L w (.pointer (some ⟨b, j + k * sz, none⟩)) := fun n a ha => by
  unfold execOp
  simp only [ho, ha.ev hx, ha.ev hy, Instr.indexAt, asIntOf, Sem.run_bind, Sem.run_pure, Result.andThen_ok, run_underlying ht, Instr.sureAddr]
  simp only [hi.1, hi.2, and_self, if_true, Sem.run_bind, run_sizeOf hs, Result.andThen_ok, Sem.run_pure, hk, addr_add]
theorem Res.idxS {e : TypeId} {len cap b j k : Nat} {i : Int} {kk : IntKind} (sz : Nat) (ho : o.op = .indexAddr t x y) (hx : L.ev x = some (.slice (some ⟨b, j, none⟩) len cap)) (hy : L.ev y = some (.int kk i)) (ht : P.underlying t = some (.slice e)) (hs : SZ P e sz)
    (hk : i.toNat = k) (hi : 0 ≤ i ∧ i < len) : Res P o L w (.pointer (some ⟨b, j + k * sz, none⟩)) := fun n a ha => by
  unfold execOp
  simp only [ho, ha.ev hx, ha.ev hy, Instr.indexAt, asIntOf, Sem.run_bind, Sem.run_pure, Result.andThen_ok, run_underlying ht]
  simp only [hi.1, hi.2, and_self, if_true, Sem.run_bind, run_sizeOf hs, Result.andThen_ok, Sem.run_pure, hk, addr_add]
theorem Res.idxA0 {e : TypeId} {len b k : Nat} {i : Int} {kk : IntKind} (ho : o.op = .indexAddr t x y) (hx : L.ev x = some (.pointer (some ⟨b, 0, none⟩))) (hy : L.ev y = some (.int kk i)) (ht : P.underlying t = some (.array len e)) (hs : SZ P e 1)
    (hk : i.toNat = k) (hi : 0 ≤ i ∧ i < len) : Res P o L w (.pointer (some ⟨b, k, none⟩)) := by
  have := Res.idxA (P := P) (w := w) 1 ho hx hy ht hs hk hi
  simpa using this
theorem Res.idxA1 {e : TypeId} {len b j k : Nat} {i : Int} {kk : IntKind} (ho : o.op = .indexAddr t x y) (hx : L.ev x = some (.pointer (some ⟨b, j, none⟩))) (hy : L.ev y = some (.int kk i)) (ht : P.underlying t = some (.array len e)) (hs : SZ P e 1)
    (hk : i.toNat = k) (hi : 0 ≤ i ∧ i < len) : Res P o L w (.pointer (some ⟨b, j + k, none⟩)) := by
  have := Res.idxA (P := P) (w := w) 1 ho hx hy ht hs hk hi
  simpa using this
theorem Res.idxAN {e : TypeId} {len b k sz : Nat} {i : Int} {kk : IntKind} (ho : o.op = .indexAddr t x y) (hx : L.ev x = some (.pointer (some ⟨b, 0, none⟩))) (hy : L.ev y = some (.int kk i)) (ht : P.underlying t = some (.array len e)) (hs : SZ P e sz)
    (hk : i.toNat = k) (hi : 0 ≤ i ∧ i < len) : Res P o L w (.pointer (some ⟨b, k * sz, none⟩)) := by
  have := Res.idxA (P := P) (w := w) sz ho hx hy ht hs hk hi
  simpa using this
theorem Res.idxS0 {e : TypeId} {len cap b k : Nat} {i : Int} {kk : IntKind} (ho : o.op = .indexAddr t x y) (hx : L.ev x = some (.slice (some ⟨b, 0, none⟩) len cap)) (hy : L.ev y = some (.int kk i)) (ht : P.underlying t = some (.slice e)) (hs : SZ P e 1)
    (hk : i.toNat = k) (hi : 0 ≤ i ∧ i < len) : Res P o L w (.pointer (some ⟨b, k, none⟩)) := by
  have := Res.idxS (P := P) (w := w) 1 ho hx hy ht hs hk hi
  simpa using this
theorem Res.idxS1 {e : TypeId} {len cap b j k : Nat} {i : Int} {kk : IntKind} (ho : o.op = .indexAddr t x y) (hx : L.ev x = some (.slice (some ⟨b, j, none⟩) len cap)) (hy : L.ev y = some (.int kk i)) (ht : P.underlying t = some (.slice e)) (hs : SZ P e 1)
    (hk : i.toNat = k) (hi : 0 ≤ i ∧ i < len) : Res P o L w (.pointer (some ⟨b, j + k, none⟩)) := by
  have := Res.idxS (P := P) (w := w) 1 ho hx hy ht hs hk hi
  simpa using this
theorem Res.index1 {e : TypeId} {d : TypeDesc} {len k : Nat} {cs : Array Value} {i : Int} {kk : IntKind} {v : Value} (ho : o.op = .index t x y) (hx : L.ev x = some (.agg cs)) (hy : L.ev y = some (.int kk i)) (ht : P.underlying t = some (.array len e)) (hs : SZ P e 1)
    (hd : P.underlying e = some d) (ha : aggD d = false) (hk : i.toNat = k) (hi : 0 ≤ i ∧ i < len) (hv : cs[k]? = some v) : Res P o L w v := fun n a hfa => by
  unfold execOp
  simp only [ho, hfa.ev hx, hfa.ev hy, Instr.index, asIntOf, Sem.run_bind, Sem.run_pure, Result.andThen_ok, run_underlying ht]
  simp only [hi.1, hi.2, and_self, if_true, Sem.run_bind, run_sizeOf hs, Result.andThen_ok, Sem.run_pure, hk, part, run_isAgg hd, ha, Bool.false_eq_true, if_false, Nat.mul_one, hv]
theorem Res.extract {l : List Value} {i : Nat} {v : Value} (ho : o.op = .extract x i) (hx : L.ev x = some (.tuple l.toArray)) (hv : l[i]? = some v) : Res P o L w v := fun n a ha => by
  unfold execOp
  simp only [ho, ha.ev hx, Instr.extract]
  simp [hv]
theorem run_callB {c : Call} {b : Builtin} {args : List Value} {r : Value} {w' : World} {a : Act} (ho : o.op = .call c) (hf : c.callee = .builtin b) (hfa : Fits n L a) (ha : c.args.toList.map L.ev = args.map some)
    (h : ∀ k, (builtin b c.argTypes o.type k args.toArray).run P w = .ok (.value r) w') : (execOp a.eval o).run P w = .ok (.value r) w' := by
  have hargs : c.args.map a.eval = args.toArray := by
    apply Array.toList_inj.1
    simp only [Array.toList_map]
    have : ∀ (l : List Operand) (r : List Value), l.map L.ev = r.map some → l.map a.eval = r := by
      intro l
      induction l with
      | nil => intro r hr; cases r with
        | nil => rfl
        | cons => simp at hr
      | cons y l ih => intro r hr; cases r with
        | nil => simp at hr
        | cons v r =>
          simp only [List.map_cons, List.cons.injEq] at hr
          rw [List.map_cons, hfa.ev hr.1, ih r hr.2]
    exact this _ _ ha
  unfold execOp
  simp only [ho, resolve, hargs, hf, Sem.run_bind, Sem.run_pure, Result.andThen_ok, invoke]
  exact h _
theorem Res.len {c : Call} {a : Option Addr} {m k : Nat} {ts : TypeId} {e : TypeId} (ho : o.op = .call c) (hf : c.callee = .builtin .len) (ha : c.args.toList.map L.ev = [Value.slice a m k].map some)
    (hat : c.argTypes[0]? = some ts) (ht : P.underlying ts = some (.slice e)) : Res P o L w (.int .i64 m) := fun n ac hac =>
  run_callB ho hf hac ha fun k => by
    simp [builtin, Builtin.len_, hat, run_underlying ht, goInt]
theorem Res.lenStr {c : Call} {s : ByteArray} {ts : TypeId} (ho : o.op = .call c) (hf : c.callee = .builtin .len) (ha : c.args.toList.map L.ev = [Value.string s].map some)
    (hat : c.argTypes[0]? = some ts) (ht : P.underlying ts = some .string) : Res P o L w (.int .i64 s.size) := fun n ac hac =>
  run_callB ho hf hac ha fun k => by
    simp [builtin, Builtin.len_, hat, run_underlying ht, goInt]
theorem Res.build {parts : Array (Nat × Operand)} {vals : List (Nat × Value)} {cs : Array Value} (ho : o.op = .build t parts) (hv : parts.toList.map (fun p => (p.1, L.ev p.2)) = vals.map (fun p => (p.1, some p.2)))
    (h : ∀ w, (Instr.build t vals.toArray).run P w = .ok (.agg cs) w) : Res P o L w (.agg cs) := fun n a ha => by
  have hargs : (parts.map fun (i, x) => (i, a.eval x)) = vals.toArray := by
    apply Array.toList_inj.1
    simp only [Array.toList_map]
    have : ∀ (l : List (Nat × Operand)) (r : List (Nat × Value)), l.map (fun p => (p.1, L.ev p.2)) = r.map (fun p => (p.1, some p.2)) → l.map (fun (i, x) => (i, a.eval x)) = r := by
      intro l
      induction l with
      | nil => intro r hr; cases r with
        | nil => rfl
        | cons => simp at hr
      | cons y l ih => intro r hr; cases r with
        | nil => simp at hr
        | cons v r =>
          simp only [List.map_cons, List.cons.injEq, Prod.mk.injEq] at hr
          obtain ⟨⟨h1, h2⟩, h3⟩ := hr
          obtain ⟨y1, y2⟩ := y
          obtain ⟨v1, v2⟩ := v
          simp only at h1 h2
          subst h1
          simp only [List.map_cons, ha.ev h2, ih r h3]
    exact this _ _ hv
  unfold execOp
  simp only [ho, hargs, h, Sem.run_bind, Result.andThen_ok, Sem.run_pure]
theorem Res.s2a {e : TypeId} {a : Option Addr} {k m c : Nat} (ho : o.op = .sliceToArrayPointer t x) (hx : L.ev x = some (.slice a m c)) (ht : P.underlying t = some (.array k e)) (hk : k ≤ m) : Res P o L w (.pointer a) := fun n ac hac => by
  unfold execOp
  have : ¬ m < k := by omega
  simp only [ho, hac.ev hx, Instr.arrayAt, Sem.run_bind, run_underlying ht, Result.andThen_ok, this, if_false, Sem.run_pure]
theorem Res.sliceA {e : TypeId} {b j k : Nat} (ho : o.op = .slice t x none none none) (hx : L.ev x = some (.pointer (some ⟨b, j, none⟩))) (ht : P.underlying t = some (.array k e)) (h0 : 0 < k) {sz : Nat} (hs : SZ P e sz) : Res P o L w (.slice (some ⟨b, j, none⟩) k k) := fun n ac hac => by
  unfold execOp
  have hk : ¬ k = 0 := by omega
  simp [ho, hac.ev hx, Instr.sliceAt, run_underlying ht, Instr.sureAddr, Instr.sliceBounds, run_sizeOf hs, hk, Addr.add]
end
end Go.E
set_option linter.unusedVariables false
set_option linter.unusedSimpArgs false
namespace Go.E
open Go
def PH.cell (M : PH) (b j : Nat) : Option Value := match M b with
  | some (.cells cs _ _) => cs[j]?
  | _ => none
theorem PH.cell_mono {M M' : PH} (h : M.le M') {b j : Nat} {v : Value} (hc : M.cell b j = some v) : M'.cell b j = some v := by
  unfold PH.cell at *
  cases hm : M b with
  | none => simp [hm] at hc
  | some o => rw [h _ _ hm]; rw [hm] at hc; exact hc
theorem PH.cell_of {M : PH} {b j : Nat} {cs : Array Value} {T : TypeId} {fr : Nat × Nat} {v : Value} (h : M b = some (.cells cs T fr)) (hv : cs[j]? = some v) : M.cell b j = some v := by
  unfold PH.cell; rw [h]; exact hv
section
variable {P : Program} {w0 w : World} {M : PH} {O : Owned}
theorem St.cell (h : St w0 w M O) {b j : Nat} {v : Value} (hc : M.cell b j = some v) : w.cell? ⟨b, j, none⟩ = some v := by
  unfold PH.cell at hc
  cases hm : M b with
  | none => simp [hm] at hc
  | some o =>
    have := h.on _ _ hm
    cases o with
    | cells cs T fr => rw [hm] at hc; rw [cell_of this]; exact hc
    | _ => simp [hm] at hc
theorem St.ocell (h : St w0 w M O) {i b j : Nat} {cs : Array Value} {T : TypeId} {fr : Nat × Nat} {v : Value} (hi : nth O i = some (b, .cells cs T fr)) (hc : cs[j]? = some v) : w.cell? ⟨b, j, none⟩ = some v := by
  rw [cell_of (h.get hi)]; exact hc
def bs (l : List UInt8) : Array Value := (l.map byte).toArray
@[simp] theorem size_bs (l : List UInt8) : (bs l).size = l.length := by simp [bs]
theorem bs_get {l : List UInt8} {j : Nat} (h : j < l.length) : (bs l)[j]? = some (byte (l.getD j 0)) := by
  simp [bs, List.getD, h]
theorem bs_set (l : List UInt8) (j : Nat) (x : UInt8) : (bs l).setIfInBounds j (byte x) = bs (l.set j x) := by
  apply Array.toList_inj.1
  simp [bs, List.map_set]
def tabV (l : List UInt8) : List (Nat × Value) := l.zipIdx.map fun p => (p.2, byte p.1)
theorem one_bs (l : List UInt8) : ∀ v ∈ (bs l).toList, v.oneCell' = true := by
  intro v hv
  simp only [bs, List.toList_toArray, List.mem_map] at hv
  obtain ⟨x, _, rfl⟩ := hv
  rfl
def Bs (M : PH) (v : Value) (l : List UInt8) : Prop :=
  ∃ oa cap, v = .slice oa l.length cap ∧ l.length ≤ cap ∧ cap ≤ 9223372036854775807 ∧ (oa = none → cap = 0) ∧
    ∀ j, j < l.length → ∃ b off, oa = some ⟨b, off, none⟩ ∧ M.cell b (off + j) = some (byte (l.getD j 0))
theorem Bs.mono {M M' : PH} (h : M.le M') {v : Value} {l : List UInt8} (hb : Bs M v l) : Bs M' v l := by
  obtain ⟨oa, cap, h1, h2, h3, h4, h5⟩ := hb
  exact ⟨oa, cap, h1, h2, h3, h4, fun j hj => let ⟨b, off, a1, a2⟩ := h5 j hj; ⟨b, off, a1, PH.cell_mono h a2⟩⟩
theorem Bs.nil (M : PH) : Bs M (.slice none 0 0) [] := ⟨none, 0, rfl, Nat.le_refl _, by omega, fun _ => rfl, fun j hj => by simp at hj⟩
theorem Bs.of {M : PH} {b : Nat} {l : List UInt8} {T : TypeId} {fr : Nat × Nat} (h : M b = some (.cells (bs l) T fr)) (hl : l.length ≤ 9223372036854775807) : Bs M (.slice (some ⟨b, 0, none⟩) l.length l.length) l :=
  ⟨_, _, rfl, Nat.le_refl _, hl, (fun e => by cases e), fun j hj => ⟨b, 0, rfl, by rw [Nat.zero_add]; exact PH.cell_of h (bs_get hj)⟩⟩
theorem Bs.at {M : PH} {v : Value} {l : List UInt8} (h : Bs M v l) (h0 : 0 < l.length) : ∃ b off cap, v = .slice (some ⟨b, off, none⟩) l.length cap ∧ l.length ≤ cap ∧ cap ≤ 9223372036854775807 ∧
    ∀ j, j < l.length → M.cell b (off + j) = some (byte (l.getD j 0)) := by
  obtain ⟨oa, cap, h1, h2, h3, h4, h5⟩ := h
  obtain ⟨b, off, rfl, h6⟩ := h5 0 h0
  exact ⟨b, off, cap, h1, h2, h3, fun j hj => by
    obtain ⟨b', off', e, h7⟩ := h5 j hj
    simp only [Option.some.injEq, Addr.mk.injEq] at e
    obtain ⟨rfl, rfl, _⟩ := e
    exact h7⟩
theorem Bs.len_le {M : PH} {v : Value} {l : List UInt8} (h : Bs M v l) : l.length ≤ 9223372036854775807 := by
  obtain ⟨oa, cap, h1, h2, h3, h4, h5⟩ := h; omega
structure ET (P : Program) (t e : TypeId) (z : Value) (sz byt : Nat) : Prop where
  ut : P.underlying t = some (.slice e)
  ie : (P.info? e).map (fun i => (i.zero, i.size, i.bytes)) = some (some z, sz, byt)
def Own (n0 : Nat) (g : Owned) (v : Value) (m sz : Nat) (xs : List Value) (e : TypeId) : Prop :=
  xs.length = m * sz ∧
  ((v = .slice none 0 0 ∧ m = 0 ∧ g = []) ∨
   ∃ b cs cap, v = .slice (some ⟨b, 0, none⟩) m cap ∧ n0 ≤ b ∧ g = [(b, .cells cs e (0, 0))] ∧ cs.size = cap * sz ∧ m ≤ cap ∧ cap ≤ 9223372036854775807 ∧ cs.toList.take (m * sz) = xs)
theorem Own.nil (n0 : Nat) (sz : Nat) (e : TypeId) : Own n0 [] (.slice none 0 0) 0 sz [] e := ⟨by simp, .inl ⟨rfl, rfl, rfl⟩⟩
theorem St.cons_drop {x : Nat × Obj} (h : St w0 w M (x :: O)) (hb : w0.heap.size ≤ x.1) : St w0 w M O := h.drop (i := 0) (b := x.1) (o := x.2) rfl hb
def intD : TypeDesc → Bool
  | .int _ => true
  | _ => false
structure Src (P : Program) (w : World) (u : TypeId) (x : Value) (m sz : Nat) (news : List Value) : Prop where
  d : ∃ du, P.underlying u = some du ∧ intD du = false
  len : ∀ w, (Builtin.lenOf x).run P w = .ok m w
  cells : ∀ w', w'.heap = w.heap → (Builtin.firstCells sz m x).run P w' = .ok news.toArray w'
  one : ∀ v ∈ news, v.oneCell' = true
  size : news.length = m * sz
set_option maxHeartbeats 4000000 in
theorem run_append {t u ty e : TypeId} {z : Value} {sz byt m sLen sCap : Nat} {base : Option Addr} {x : Value} {news olds : List Value} (he : ET P t e z sz byt) (hsz : 0 < sz) (hz : z.cells.size = sz) (hs : Src P w u x m sz news)
    (hlo : olds.length = sLen * sz) (hold : ∀ w', w'.heap = w.heap → (Builtin.firstCells sz sLen (.slice base sLen sCap)).run P w' = .ok olds.toArray w')
    (hg : sCap < sLen + m) (h63 : sLen + m ≤ 4611686018427387904) (hby : (sLen + m) * byt ≤ 140737488355328) :
    ∃ (cap : Nat) (rest : List Value), sLen + m ≤ cap ∧ cap ≤ 9223372036854775807 ∧ (olds ++ news).length + rest.length = cap * sz ∧ 
    (Builtin.append_ #[t, u] ty #[.slice base sLen sCap, x]).run P w = .ok (.slice (some ⟨w.heap.size, 0, none⟩) (sLen + m) cap) (w.drew.alloc (.cells ((olds ++ news).toArray ++ rest.toArray) e (0, 0))) := by
  obtain ⟨du, hdu, hnu⟩ := hs.d
  cases hq : P.info? e with
  | none => have := he.ie; simp [hq] at this
  | some i =>
    have hie := he.ie
    simp only [hq, Option.map_some, Option.some.injEq, Prod.mk.injEq] at hie
    obtain ⟨hz1, hz2, hz3⟩ := hie
    have hge : sLen + m ≤ grownCap w (sLen + m) sCap e := grownCap_ge w _ _ e
    have hle : grownCap w (sLen + m) sCap e ≤ 9223372036854775807 := by
      have := grownCap_le_maxLen w (sLen + m) sCap e (by unfold maxLen; omega)
      unfold maxLen at this; omega
    refine ⟨grownCap w (sLen + m) sCap e, (Builtin.zeroCells z.cells (grownCap w (sLen + m) sCap e - (sLen + m))).toList, hge, hle, ?_, ?_⟩
    · rw [List.length_append, hlo, hs.size, Array.length_toList, size_zeroCells, hz, ← Nat.add_mul, ← Nat.add_mul]
      congr 1; omega
    · have hn : ¬ (sLen + m ≤ sCap) := by omega
      have h63' : ¬ (9223372036854775807 < ((sLen : Int) + (m : Int))) := by omega
      have h48' : ¬ (281474976710656 < Builtin.nextslicecap (sLen + m) sCap * byt) := by
        have := growslice_fits hg hby; omega
      have hf := hs.cells w.drew rfl
      have ho := hold w.drew rfl
      have hl := hs.len w
      have hd : ({ w with drawn := w.drawn + 1 } : World) = w.drew := rfl
      cases du with
      | int k => simp [intD] at hnu
      | _ =>
        rw [show (olds ++ news).toArray = olds.toArray ++ news.toArray by simp, Array.append_assoc]
        simp [Builtin.append_, run_underlying he.ut, run_underlying hdu, sizeOf, typeInfo, zeroValue, hq, hz1, hz2, hz3, hl, hn, h63', h48', Question.forced, newRow, hd, ho, hf, grownCap]
theorem Src.slice {u e : TypeId} {a : Addr} {m c sz : Nat} {news : List Value} (hu : P.underlying u = some (.slice e)) (hl : news.length = m * sz) (hc : ∀ j v, news[j]? = some v → w.cell? (a.add j) = some v) (h1 : ∀ v ∈ news, v.oneCell' = true) :
    Src P w u (.slice (some a) m c) m sz news :=
  ⟨⟨_, hu, rfl⟩, fun w => rfl, fun w' hw => run_firstCells_some w' sz m a m c news hl fun j v hj => by
    have := hc j v hj
    simp only [World.cell?, hw] at *; exact this, h1, hl⟩
theorem Src.nil {u e : TypeId} {sz : Nat} (hu : P.underlying u = some (.slice e)) : Src P w u (.slice none 0 0) 0 sz [] :=
  ⟨⟨_, hu, rfl⟩, fun w => rfl, fun w' hw => run_firstCells_none w' sz 0 0 0, (fun v hv => by cases hv), by simp⟩
theorem Src.str {u : TypeId} {s : ByteArray} (hu : P.underlying u = some .string) : Src P w u (.string s) s.size 1 (s.data.toList.map byte) :=
  ⟨⟨_, hu, rfl⟩, fun w => rfl, fun w' hw => by
    simp only [Builtin.firstCells]
    have : s.extract 0 s.size = s := by
      apply ByteArray.ext; simp
    rw [this]
    have h2 : (s.data.map fun b => Value.int IntKind.u8 (b.toNat : Int)) = (s.data.toList.map byte).toArray := by
      apply Array.toList_inj.1; simp [byte]
    rw [h2]
    rfl
    , fun v hv => by
      simp only [List.mem_map] at hv
      obtain ⟨x, _, rfl⟩ := hv
      rfl, by simp⟩
section
variable {n : Nat} {L : Env} {o : Oper} {x y : Operand} {t : TypeId} {K : Env → World → Prop}
theorem Stp.storeB {a : UInt8} (i : Nat) {b j : Nat} {l : List UInt8} {T : TypeId} (ho : o.op = .store t x y) (hx : L.ev x = some (.pointer (some ⟨b, j, none⟩))) (hy : L.ev y = some (byte a)) (hs : SZ P t 1)
    (hd : o.dst = none) (hS : St w0 w M O) (hi : nth O i = some (b, .cells (bs l) T (0, 0))) (hj : j < l.length)
    (h : ∀ w', St w0 w' M (upd O i (.cells (bs (l.set j a)) T (0, 0))) → Put w w' b (.cells (bs (l.set j a)) T (0, 0)) → K L w') : Stp P n o L w K :=
  Stp.store1 i ho hx hy hs rfl hd hS hi (by simpa using hj) fun w' hw hp => by rw [bs_set] at hw hp; exact h w' hw hp
theorem Stp.storeAllB (i : Nat) {b k : Nat} {l r : List UInt8} {T : TypeId} (ho : o.op = .store t x y) (hx : L.ev x = some (.pointer (some ⟨b, 0, none⟩))) (hy : L.ev y = some (.agg (bs r))) (hs : SZ P t k)
    (hd : o.dst = none) (hS : St w0 w M O) (hi : nth O i = some (b, .cells (bs l) T (0, 0))) (hk : l.length = k ∧ r.length = k)
    (h : ∀ w', St w0 w' M (upd O i (.cells (bs r) T (0, 0))) → Put w w' b (.cells (bs r) T (0, 0)) → K L w') : Stp P n o L w K :=
  Stp.storeAll i ho hx hy (by rw [size_bs, hk.2]; exact hs) (one_bs r) hd hS hi (by simp; omega) h
theorem Stp.storeNB (i : Nat) {b j k : Nat} {l r : List UInt8} {T : TypeId} (ho : o.op = .store t x y) (hx : L.ev x = some (.pointer (some ⟨b, j, none⟩))) (hy : L.ev y = some (.agg (bs r))) (hs : SZ P t k)
    (hd : o.dst = none) (hS : St w0 w M O) (hi : nth O i = some (b, .cells (bs l) T (0, 0))) (hk : r.length = k) (hj : j + k ≤ l.length)
    (h : ∀ w', St w0 w' M (upd O i (.cells (bs (l.take j ++ r ++ l.drop (j + k))) T (0, 0))) → Put w w' b (.cells (bs (l.take j ++ r ++ l.drop (j + k))) T (0, 0)) → K L w') : Stp P n o L w K :=
  Stp.storeN i ho hx hy hs (by simpa using hk) (one_bs r) hd hS hi (by simpa using hj) fun w' hw hp => by
    have e : ((bs l).toList.take j ++ (bs r).toList ++ (bs l).toList.drop (j + k)).toArray = bs (l.take j ++ r ++ l.drop (j + k)) := by simp [bs]
    rw [e] at hw hp
    exact h w' hw hp
theorem Res.loadNB {d : TypeDesc} {b i k : Nat} {l : List UInt8} (ho : o.op = .load t x) (hx : L.ev x = some (.pointer (some ⟨b, i, none⟩))) (hd : P.underlying t = some d) (ha : aggD d = true)
    (hs : SZ P t k) (hl : l.length = k) (hv : ∀ j, j < k → w.cell? ⟨b, i + j, none⟩ = some (byte (l.getD j 0))) : Res P o L w (.agg (bs l)) := by
  refine Res.loadN (r := l.map byte) ho hx hd ha hs (by simpa using hl) fun j u hj => ?_
  have hlt : j < l.length := by have := (List.getElem?_eq_some_iff.1 hj).1; simpa using this
  rw [hv j (by omega)]
  have := bs_get hlt
  simp only [bs, List.getElem?_toArray] at this
  rw [← this]; exact hj
end
section
variable {L : Env} {o : Oper} {x y : Operand} {t t2 : TypeId} {a b : Nat}
theorem ofInt_nat (a : Nat) : BitVec.ofInt 64 (a : Int) = BitVec.ofNat 64 a := by
  apply BitVec.eq_of_toNat_eq; simp [BitVec.toNat_ofInt]
theorem Res.xorI (ho : o.op = .binOp .xor t x y t2) (hx : L.ev x = some (.int .i64 (a : Int))) (hy : L.ev y = some (.int .i64 (b : Int)))
    (h : a < 2 ^ 62 ∧ b < 2 ^ 62) : Res P o L w (.int .i64 ((a ^^^ b : Nat) : Int)) := fun n c hc =>
  run_bin ho (hc.ev hx) (hc.ev hy) rfl (by
    have h1 : a ^^^ b < 2 ^ 62 := Nat.xor_lt_two_pow h.1 h.2
    have h2 : (BitVec.ofNat 64 a ^^^ BitVec.ofNat 64 b).toNat = a ^^^ b := by
      simp only [BitVec.toNat_xor, BitVec.toNat_ofNat]
      rw [Nat.mod_eq_of_lt (by omega), Nat.mod_eq_of_lt (by omega)]
    have h3 : (binOp .xor t (.int .i64 (a : Int)) (.int .i64 (b : Int))).run P w = .ok (.int .i64 (IntKind.i64.wrap (((BitVec.ofInt 64 (a : Int) ^^^ BitVec.ofInt 64 (b : Int)).toNat : Nat) : Int))) w := rfl
    rw [h3, ofInt_nat, ofInt_nat, h2, wrap_i64 (by omega)])
theorem Res.andI (ho : o.op = .binOp .and t x y t2) (hx : L.ev x = some (.int .i64 (a : Int))) (hy : L.ev y = some (.int .i64 (b : Int)))
    (h : a < 2 ^ 62 ∧ b < 2 ^ 62) : Res P o L w (.int .i64 ((a &&& b : Nat) : Int)) := fun n c hc =>
  run_bin ho (hc.ev hx) (hc.ev hy) rfl (by
    have h1 : a &&& b < 2 ^ 62 := Nat.and_lt_two_pow _ h.2
    have h2 : (BitVec.ofNat 64 a &&& BitVec.ofNat 64 b).toNat = a &&& b := by
      simp only [BitVec.toNat_and, BitVec.toNat_ofNat]
      rw [Nat.mod_eq_of_lt (by omega), Nat.mod_eq_of_lt (by omega)]
    have h3 : (binOp .and t (.int .i64 (a : Int)) (.int .i64 (b : Int))).run P w = .ok (.int .i64 (IntKind.i64.wrap (((BitVec.ofInt 64 (a : Int) &&& BitVec.ofInt 64 (b : Int)).toNat : Nat) : Int))) w := rfl
    rw [h3, ofInt_nat, ofInt_nat, h2, wrap_i64 (by omega)])
theorem Res.orI (ho : o.op = .binOp .or t x y t2) (hx : L.ev x = some (.int .i64 (a : Int))) (hy : L.ev y = some (.int .i64 (b : Int)))
    (h : a < 2 ^ 62 ∧ b < 2 ^ 62) : Res P o L w (.int .i64 ((a ||| b : Nat) : Int)) := fun n c hc =>
  run_bin ho (hc.ev hx) (hc.ev hy) rfl (by
    have h1 : a ||| b < 2 ^ 62 := Nat.or_lt_two_pow h.1 h.2
    have h2 : (BitVec.ofNat 64 a ||| BitVec.ofNat 64 b).toNat = a ||| b := by
      simp only [BitVec.toNat_or, BitVec.toNat_ofNat]
      rw [Nat.mod_eq_of_lt (by omega), Nat.mod_eq_of_lt (by omega)]
    have h3 : (binOp .or t (.int .i64 (a : Int)) (.int .i64 (b : Int))).run P w = .ok (.int .i64 (IntKind.i64.wrap (((BitVec.ofInt 64 (a : Int) ||| BitVec.ofInt 64 (b : Int)).toNat : Nat) : Int))) w := rfl
    rw [h3, ofInt_nat, ofInt_nat, h2, wrap_i64 (by omega)])
theorem Res.andNotI (ho : o.op = .binOp .andNot t x y t2) (hx : L.ev x = some (.int .i64 (a : Int))) (hy : L.ev y = some (.int .i64 (b : Int)))
    (h : a < 2 ^ 62 ∧ b < 2 ^ 62) : Res P o L w (.int .i64 ((a ^^^ (a &&& b) : Nat) : Int)) := fun n c hc =>
  run_bin ho (hc.ev hx) (hc.ev hy) rfl (by
    have h0 : a &&& b < 2 ^ 62 := Nat.and_lt_two_pow _ h.2
    have h1 : a ^^^ (a &&& b) < 2 ^ 62 := Nat.xor_lt_two_pow h.1 h0
    have h2 : (BitVec.ofNat 64 a &&& ~~~ BitVec.ofNat 64 b).toNat = a ^^^ (a &&& b) := by
      have e : BitVec.ofNat 64 a &&& ~~~ BitVec.ofNat 64 b = BitVec.ofNat 64 a ^^^ (BitVec.ofNat 64 a &&& BitVec.ofNat 64 b) := by
        apply BitVec.eq_of_getElem_eq
        intro i hi
        simp only [BitVec.getElem_and, BitVec.getElem_not, BitVec.getElem_xor]
        cases (BitVec.ofNat 64 a)[i] <;> cases (BitVec.ofNat 64 b)[i] <;> rfl
      rw [e]
      simp only [BitVec.toNat_xor, BitVec.toNat_and, BitVec.toNat_ofNat]
      rw [Nat.mod_eq_of_lt (by omega : a < 2 ^ 64), Nat.mod_eq_of_lt (by omega : b < 2 ^ 64)]
    have h3 : (binOp .andNot t (.int .i64 (a : Int)) (.int .i64 (b : Int))).run P w = .ok (.int .i64 (IntKind.i64.wrap (((BitVec.ofInt 64 (a : Int) &&& ~~~ BitVec.ofInt 64 (b : Int)).toNat : Nat) : Int))) w := rfl
    rw [h3, ofInt_nat, ofInt_nat, h2, wrap_i64 (by omega)])
end
end
end Go.E
set_option linter.unusedVariables false
set_option linter.unusedSimpArgs false
namespace Go.E
open Go
section
variable {P : Program} {n : Nat} {L : Env} {w0 w : World} {M : PH} {O g : Owned} {o : Oper} {K : Env → World → Prop}
theorem setRow_take (l : List Value) (k : Nat) (news : List Value) (h : k + news.length ≤ l.length) (xs : List Value) (hx : l.take k = xs) :
    (l.take k ++ news ++ l.drop (k + news.length)).take (k + news.length) = xs ++ news := by
  have h1 : (l.take k ++ news).length = k + news.length := by simp; omega
  rw [← h1, List.take_left, hx]
set_option maxHeartbeats 4000000 in
theorem run_append_fits {t u ty e : TypeId} {z : Value} {sz byt m sLen sCap b : Nat} {x : Value} {news : List Value} {cs : Array Value} {T : TypeId} (he : ET P t e z sz byt) (hs : Src P w u x m sz news)
    (hg : sLen + m ≤ sCap) (hb : w.heap[b]? = some (.cells cs T (0, 0))) (hc : sCap * sz ≤ cs.size) :
    (Builtin.append_ #[t, u] ty #[.slice (some ⟨b, 0, none⟩) sLen sCap, x]).run P w = .ok (.slice (some ⟨b, 0, none⟩) (sLen + m) sCap)
      (w.setRow b (cs.toList.take (sLen * sz) ++ news ++ cs.toList.drop (sLen * sz + news.length)).toArray) := by
  obtain ⟨du, hdu, hnu⟩ := hs.d
  have hfit : sLen * sz + news.length ≤ cs.size := by
    rw [hs.size, ← Nat.add_mul]; exact Nat.le_trans (Nat.mul_le_mul_right _ hg) hc
  cases hq : P.info? e with
  | none => have := he.ie; simp [hq] at this
  | some i =>
    have hie := he.ie
    simp only [hq, Option.map_some, Option.some.injEq, Prod.mk.injEq] at hie
    obtain ⟨hz1, hz2, hz3⟩ := hie
    have hf := hs.cells w rfl
    have hl := hs.len w
    have hst := run_storeCells_at (P := P) b (sLen * sz) T news 0 cs w hb (by simpa using hfit) hs.one
    simp only [Nat.add_zero] at hst
    cases du with
    | int k => simp [intD] at hnu
    | _ =>
      simp [Builtin.append_, run_underlying he.ut, run_underlying hdu, sizeOf, typeInfo, hq, hz2, hl, hg, hf, addr_add, hst]
set_option maxHeartbeats 4000000 in
theorem run_append_none {t u ty e : TypeId} {z : Value} {sz byt : Nat} {x : Value} (he : ET P t e z sz byt) (hs : Src P w u x 0 sz []) :
    (Builtin.append_ #[t, u] ty #[.slice none 0 0, x]).run P w = .ok (.slice none 0 0) w := by
  obtain ⟨du, hdu, hnu⟩ := hs.d
  have hie := he.ie
  cases hq : P.info? e with
  | none => simp [hq] at hie
  | some i =>
    simp only [hq, Option.map_some, Option.some.injEq, Prod.mk.injEq] at hie
    have hl := hs.len w
    have hf := hs.cells w rfl
    cases du with
    | int k => simp [intD] at hnu
    | _ => simp [Builtin.append_, run_underlying he.ut, run_underlying hdu, sizeOf, typeInfo, hq, hie.2.1, hl, hf]
set_option maxHeartbeats 1000000 in
theorem Stp.append {c : Call} {v x : Value} {t u e : TypeId} {z : Value} {sz byt m k d : Nat} {xs news : List Value} (ho : o.op = .call c) (hf : c.callee = .builtin .append) (ha : c.args.toList.map L.ev = [v, x].map some)
    (hat : c.argTypes = #[t, u]) (he : ET P t e z sz byt) (hsz : 0 < sz) (hz : z.cells.size = sz) (hs : Src P w u x m sz news) (hS : St w0 w M (g ++ O)) (hw : Own w0.heap.size g v k sz xs e)
    (h63 : k + m ≤ 4611686018427387904) (hby : (k + m) * byt ≤ 140737488355328) (hd : o.dst = some d) (hn : Nat.blt d n = true)
    (h : ∀ v' w' g', St w0 w' M (g' ++ O) → Own w0.heap.size g' v' (k + m) sz (xs ++ news) e → K ((d, v') :: L) w') : Stp P n o L w K := by
  have fin : ∀ v' w', (Builtin.append_ #[t, u] o.type #[v, x]).run P w = .ok v' w' → (∃ g', St w0 w' M (g' ++ O) ∧ Own w0.heap.size g' v' (k + m) sz (xs ++ news) e) → Stp P n o L w K := fun v' w' hr ⟨g', h1, h2⟩ =>
    Stp.resW hd hn (fun n a hfa => run_callB ho hf hfa ha fun cc => by
      simp only [builtin, hat, Sem.run_bind, hr, Result.andThen_ok, Sem.run_pure]) (h v' w' g' h1 h2)
  have hlen : (xs ++ news).length = (k + m) * sz := by rw [List.length_append, hw.1, hs.size, Nat.add_mul]
  rcases hw.2 with ⟨rfl, rfl, rfl⟩ | ⟨b, cs, cap, rfl, hb0, rfl, hcs, hkc, hcap, htk⟩
  · have hx0 : xs = [] := List.eq_nil_of_length_eq_zero (by simpa using hw.1)
    subst hx0
    by_cases hm : m = 0
    · subst hm
      have hn0 : news = [] := List.eq_nil_of_length_eq_zero (by simpa using hs.size)
      subst hn0
      exact fin (.slice none 0 0) w (run_append_none he hs) ⟨[], hS, by simp, .inl ⟨rfl, rfl, rfl⟩⟩
    · obtain ⟨cap, rest, h1, h2, h3, hr⟩ := run_append (P := P) (w := w) (ty := o.type) (base := none) (sLen := 0) (sCap := 0) (olds := []) he hsz hz hs (by simp) (fun w' _ => by rw [run_firstCells_none]) (by omega) (by omega) hby
      refine fin _ _ hr ⟨[(w.heap.size, _)], hS.drew.alloc _, hlen, .inr ⟨_, _, cap, rfl, hS.size, rfl, ?_, h1, h2, ?_⟩⟩
      · simp only [List.size_toArray, Array.size_append]; simp only [List.length_append] at h3; simpa using h3
      · rw [← hlen]; simp
  · have hbl := hS.get (i := 0) (b := b) rfl
    by_cases hroom : k + m ≤ cap
    · have hr := run_append_fits (P := P) (ty := o.type) he hs hroom hbl (by rw [hcs]; exact Nat.le_refl _)
      have hfit : k * sz + news.length ≤ cs.toList.length := by
        rw [hs.size, ← Nat.add_mul, Array.length_toList, hcs]; exact Nat.mul_le_mul_right _ hroom
      refine fin _ _ hr ⟨[(b, _)], hS.put (i := 0) (b := b) rfl (put_setRow hbl), hlen, .inr ⟨b, _, cap, rfl, hb0, rfl, ?_, hroom, hcap, ?_⟩⟩
      · simp only [List.size_toArray, List.length_append, List.length_take, List.length_drop, Array.length_toList] at hfit ⊢; omega
      · have := setRow_take cs.toList (k * sz) news hfit xs htk
        rw [hs.size, ← Nat.add_mul] at this
        simpa [hs.size, ← Nat.add_mul] using this
    · have hold : ∀ j u, xs[j]? = some u → w.cell? ((⟨b, 0, none⟩ : Addr).add j) = some u := fun j u hj => by
        rw [addr_add, Nat.zero_add, cell_of hbl]
        rw [← htk, List.getElem?_take] at hj
        split at hj
        · simpa using hj
        · cases hj
      obtain ⟨cap', rest, h1, h2, h3, hr⟩ := run_append (P := P) (w := w) (ty := o.type) (base := some ⟨b, 0, none⟩) (sLen := k) (sCap := cap) (olds := xs) he hsz hz hs hw.1
        (fun w' hw' => run_firstCells_some w' sz k ⟨b, 0, none⟩ k cap xs hw.1 fun j v hj => by
          have := hold j v hj
          simp only [World.cell?, hw'] at *; exact this) (by omega) h63 hby
      refine fin _ _ hr ⟨[(w.heap.size, _)], (St.cons_drop (x := (b, _)) hS hb0).drew.alloc _, hlen, .inr ⟨_, _, cap', rfl, hS.size, rfl, ?_, h1, h2, ?_⟩⟩
      · simp only [List.size_toArray, Array.size_append]; simp only [List.length_append] at h3 ⊢; simpa using h3
      · rw [← hlen]
        have : ((xs ++ news).toArray ++ rest.toArray).toList = (xs ++ news) ++ rest := by simp
        rw [this, List.take_left]
end
end Go.E
set_option linter.unusedVariables false
set_option linter.unusedSimpArgs false
namespace Go.E
open Go
theorem St.take {w0 w : World} {M M' : PH} {O : Owned} (h : St w0 w M' O) {b : Nat} {o : Obj} (hb : M' b = some o) (hl : M.le M') (hm : M b = none) : St w0 w M ((b, o) :: O) := by
  have hk := h.known hl
  refine ⟨hk.os, hk.tape, hk.output, hk.size, fun k hk0 hne => hk.blk k hk0 fun x hx => hne x (List.mem_cons_of_mem _ hx), hk.on, fun x hx => ?_, ?_⟩
  · rcases List.mem_cons.1 hx with rfl | hx
    · exact ⟨h.on _ _ hb, hm⟩
    · exact hk.own x hx
  · simp only [List.map_cons, List.nodup_cons]
    refine ⟨fun hx => ?_, h.nd⟩
    obtain ⟨x, hx, e⟩ := List.mem_map.1 hx
    have := (h.own x hx).2
    rw [e, hb] at this
    cases this
theorem Fresh.add {M : PH} {b n : Nat} (o : Obj) (h : n ≤ b) : Fresh M (M.add b o) n := fun i h1 h2 => by
  by_cases e : i = b
  · rw [e]; exact h
  · rw [PH.add_ne M o e] at h2; exact absurd h1 h2
theorem Fresh.none {M M' : PH} {n b : Nat} (h : Fresh M M' n) (w : World) (hM : On M w) (hn : w.heap.size ≤ b) : M b = none := by
  cases hm : M b with
  | none => rfl
  | some o => have := lt_of_get (hM _ _ hm); omega
theorem Fresh.trans {M M' M'' : PH} {n n' : Nat} (h : Fresh M M' n) (k : Fresh M' M'' n') (hn : n ≤ n') : Fresh M M'' n := fun i h1 h2 => by
  cases hm : M' i with
  | none => have := k i hm h2; omega
  | some o => exact h i h1 (by rw [hm]; simp)
theorem Bs.of' {M : PH} {b k : Nat} {l : List UInt8} {T : TypeId} {fr : Nat × Nat} (h : M b = some (.cells (bs l) T fr)) (hk : l.length = k) (hl : k ≤ 9223372036854775807) : Bs M (.slice (some ⟨b, 0, none⟩) k k) l := by
  subst hk; exact Bs.of h hl
theorem St.out {w0 w : World} {M : PH} {O : Owned} (h : St w0 w M O) {i b : Nat} {o : Obj} (hi : nth O i = some (b, o)) : M b = none := (h.own _ (nth_mem hi)).2
theorem i64c {a b : Int} (h : a = b) : some (Value.int .i64 a) = some (Value.int .i64 b) := by rw [h]
end Go.E
set_option linter.unusedVariables false
set_option linter.unusedSimpArgs false
namespace Go.E
open Go
section
variable {P : Program} {n : Nat} {L : Env} {w0 w : World} {M : PH} {O g : Owned} {o : Oper} {x y : Operand} {t e : TypeId} {K : Env → World → Prop}
theorem madeCells_byte (k : Nat) : madeCells (byte 0).cells k = bs (List.replicate k 0) := by
  apply Array.toList_inj.1
  apply List.ext_getElem
  · simp [madeCells, bs]
  · intro i h1 h2
    have : i % 1 = 0 := Nat.mod_one i
    simp [madeCells, bs, byte, Value.cells, this]
theorem Stp.makeB {d k c : Nat} {kl kc : IntKind} (ho : o.op = .makeSlice t x y) (hx : L.ev x = some (.int kl (k : Int))) (hy : L.ev y = some (.int kc (c : Int))) (he : ET P t e (byte 0) 1 1) (hkc : k ≤ c ∧ c ≤ 281474976710656)
    (hd : o.dst = some d) (hn : Nat.blt d n = true) (hS : St w0 w M O)
    (h : ∀ b w', w0.heap.size ≤ b → St w0 w' M ((b, .cells (bs (List.replicate c 0)) e (0, 0)) :: O) → Kept w w' → w.heap[b]? = none → K ((d, .slice (some ⟨b, 0, none⟩) k c) :: L) w') : Stp P n o L w K := by
  cases hq : P.info? e with
  | none => have := he.ie; simp [hq] at this
  | some i =>
    have hie := he.ie
    simp only [hq, Option.map_some, Option.some.injEq, Prod.mk.injEq] at hie
    obtain ⟨h1, h2, h3⟩ := hie
    have hr := run_make (P := P) w t e i (byte 0) he.ut hq h1 kl kc (k : Int) (c : Int) (by omega) (by omega) (by rw [h3]; omega) (by omega)
    simp only [Int.toNat_natCast, h2, Nat.mul_one, madeCells_byte] at hr
    exact Stp.resW (w' := w.alloc (.cells (bs (List.replicate c 0)) e (0, 0))) hd hn (fun n a ha => by
      unfold execOp
      simp only [ho, ha.ev hx, ha.ev hy, Sem.run_bind, hr, Result.andThen_ok, Sem.run_pure]) (h _ _ hS.size (hS.alloc _) (Kept.alloc _ _) (new_none _))
theorem Stp.lit {d k : Nat} {parts : Array (Nat × Operand)} {vals : List (Nat × Value)} {cs : Array Value} (ho : o.op = .buildSlice t k parts) (hv : parts.toList.map (fun p => (p.1, L.ev p.2)) = vals.map (fun p => (p.1, some p.2)))
    (hr : ∀ w, (Instr.buildSlice t k vals.toArray).run P w = .ok (.slice (some ⟨w.heap.size, 0, none⟩) k k) (w.alloc (.cells cs e (0, 0))))
    (hd : o.dst = some d) (hn : Nat.blt d n = true) (hS : St w0 w M O)
    (h : ∀ b w', w0.heap.size ≤ b → St w0 w' M ((b, .cells cs e (0, 0)) :: O) → Kept w w' → w.heap[b]? = none → K ((d, .slice (some ⟨b, 0, none⟩) k k) :: L) w') : Stp P n o L w K :=
  Stp.resW (w' := w.alloc (.cells cs e (0, 0))) hd hn (fun n a ha => by
    have hargs : (parts.map fun (i, x) => (i, a.eval x)) = vals.toArray := by
      apply Array.toList_inj.1
      simp only [Array.toList_map]
      have : ∀ (l : List (Nat × Operand)) (r : List (Nat × Value)), l.map (fun p => (p.1, L.ev p.2)) = r.map (fun p => (p.1, some p.2)) → l.map (fun (i, x) => (i, a.eval x)) = r := by
        intro l
        induction l with
        | nil => intro r hr; cases r with
          | nil => rfl
          | cons => simp at hr
        | cons y l ih => intro r hr; cases r with
          | nil => simp at hr
          | cons v r =>
            simp only [List.map_cons, List.cons.injEq, Prod.mk.injEq] at hr
            obtain ⟨⟨h1, h2⟩, h3⟩ := hr
            obtain ⟨y1, y2⟩ := y
            obtain ⟨v1, v2⟩ := v
            simp only at h1 h2
            subst h1
            simp only [List.map_cons, ha.ev h2, ih r h3]
      exact this _ _ hv
    unfold execOp
    simp only [ho, hargs, hr, Sem.run_bind, Result.andThen_ok, Sem.run_pure]) (h _ _ hS.size (hS.alloc _) (Kept.alloc _ _) (new_none _))
def str (l : List UInt8) : Value := .string ⟨l.toArray⟩
theorem toNat_byte (l : List UInt8) : (l.map fun b => (b.toNat : Int)).map (fun n => UInt8.ofNat n.toNat) = l := by
  rw [List.map_map]
  conv => rhs; rw [← List.map_id l]
  apply List.map_congr_left
  intro b _
  simp
theorem run_b2s (hS : St w0 w M O) {v : Value} {l : List UInt8} (hb : Bs M v l) {s d u : TypeId} (hs : P.underlying s = some (.slice u)) (hu : P.underlying u = some (.int .u8)) (hd : P.underlying d = some .string) :
    (convert s d v).run P w = .ok (str l) w := by
  obtain ⟨oa, cap, rfl, h2, h3, h4, h5⟩ := hb
  have hstr : strOfNums (l.map fun b => (b.toNat : Int)) = ⟨l.toArray⟩ := by
    apply ByteArray.ext
    apply Array.toList_inj.1
    rw [strOfNums_data, toNat_byte]
  by_cases h0 : 0 < l.length
  · obtain ⟨b, off, rfl, _⟩ := h5 0 h0
    have := run_convert_bytes_arg (P := P) w s u hs hu b off l.length cap (l.map fun b => (b.toNat : Int)) (by simp) (fun i hi => by
      obtain ⟨b', off', e, h7⟩ := h5 i hi
      simp only [Option.some.injEq, Addr.mk.injEq] at e
      obtain ⟨rfl, rfl, _⟩ := e
      rw [hS.cell h7]
      simp [byte, List.getD, hi]) d hd
    rw [this, hstr]; rfl
  · have hl : l = [] := List.eq_nil_of_length_eq_zero (by omega)
    subst hl
    cases oa with
    | none =>
      rw [run_convert_bytes_nil w s u hs hu _ _ d hd]; rfl
    | some a =>
      rw [run_convert_bytes_string w s d u _ _ cap hs hu hd]
      simp [Conv.bytesToString, loadCells, loadCellsFrom, str, ByteArray.empty, ByteArray.emptyWithCapacity]
      rfl
theorem Res.b2s {v : Value} {l : List UInt8} {s d u : TypeId} (ho : o.op = .convert s d x) (hx : L.ev x = some v) (hS : St w0 w M O) (hb : Bs M v l) (hs : P.underlying s = some (.slice u)) (hu : P.underlying u = some (.int .u8)) (hd : P.underlying d = some .string) : Res P o L w (str l) := fun n a ha => by
  unfold execOp
  simp only [ho, ha.ev hx, Sem.run_bind, run_b2s hS hb hs hu hd, Result.andThen_ok, Sem.run_pure]
theorem Res.eqlS {a b : List UInt8} {t2 : TypeId} (ho : o.op = .binOp .eql t x y t2) (hx : L.ev x = some (str a)) (hy : L.ev y = some (str b)) : Res P o L w (.bool (decide (a = b))) := fun n c hc =>
  run_bin ho (hc.ev hx) (hc.ev hy) (by simp [eqGuard, str]) (by
    simp only [str, binOp, Op.stringOp, Sem.run_pure, ByteArray.toList_mk]
    congr 2
    by_cases h : a = b <;> simp [h])
theorem Res.neqS {a b : List UInt8} {t2 : TypeId} (ho : o.op = .binOp .neq t x y t2) (hx : L.ev x = some (str a)) (hy : L.ev y = some (str b)) : Res P o L w (.bool (decide (¬ a = b))) := fun n c hc =>
  run_bin ho (hc.ev hx) (hc.ev hy) (by simp [eqGuard, str]) (by
    simp only [str, binOp, Op.stringOp, Sem.run_pure, ByteArray.toList_mk]
    congr 2
    by_cases h : a = b <;> simp [h])
def OwnB (n0 : Nat) (g : Owned) (v : Value) (l : List UInt8) (e : TypeId) : Prop := Own n0 g v l.length 1 (l.map byte) e
theorem OwnB.nil (n0 : Nat) (e : TypeId) : OwnB n0 [] (.slice none 0 0) [] e := Own.nil n0 1 e
theorem OwnB.of {n0 b : Nat} {l : List UInt8} {c k : Nat} (hb : n0 ≤ b) (hk : k ≤ c) (hc : c ≤ 9223372036854775807) (l' : List UInt8) (hl : l.length = c) (hl' : l.take k = l') : OwnB n0 [(b, .cells (bs l) e (0, 0))] (.slice (some ⟨b, 0, none⟩) k c) l' e := by
  subst hl'
  have e1 : (l.take k).length = k := by simp; omega
  refine ⟨by simp, .inr ⟨b, _, c, by rw [e1], hb, rfl, by simp [hl], by omega, hc, ?_⟩⟩
  rw [e1, Nat.mul_one]
  simp [bs]
theorem Src.ofBs {v : Value} {l : List UInt8} {u : TypeId} (hu : P.underlying u = some (.slice e)) (hS : St w0 w M O) (hb : Bs M v l) : Src P w u v l.length 1 (l.map byte) := by
  obtain ⟨oa, cap, rfl, h2, h3, h4, h5⟩ := hb
  have hone : ∀ v ∈ l.map byte, v.oneCell' = true := fun v hv => by
    obtain ⟨x, _, rfl⟩ := List.mem_map.1 hv
    rfl
  by_cases h0 : 0 < l.length
  · obtain ⟨b, off, rfl, _⟩ := h5 0 h0
    refine Src.slice hu (by simp) (fun j v hj => ?_) hone
    have hjl : j < l.length := by have := (List.getElem?_eq_some_iff.1 hj).1; simpa using this
    obtain ⟨b', off', e', h7⟩ := h5 j hjl
    simp only [Option.some.injEq, Addr.mk.injEq] at e'
    obtain ⟨rfl, rfl, _⟩ := e'
    rw [addr_add, hS.cell h7]
    have := bs_get hjl
    simp only [bs, List.getElem?_toArray] at this
    rw [← this]; exact hj
  · have hl : l = [] := List.eq_nil_of_length_eq_zero (by omega)
    subst hl
    exact ⟨⟨_, hu, rfl⟩, fun w => rfl, fun w' _ => by cases oa <;> simp [Builtin.firstCells, loadCells, loadCellsFrom], hone, by simp⟩
theorem Src.ofStr {l : List UInt8} {u : TypeId} (hu : P.underlying u = some .string) : Src P w u (Go.E.str l) l.length 1 (l.map byte) := Src.str (s := ⟨l.toArray⟩) hu
theorem Stp.appendB {c : Call} {v s : Value} {u d : Nat} {l r : List UInt8} (ho : o.op = .call c) (hf : c.callee = .builtin .append) (ha : c.args.toList.map L.ev = [v, s].map some)
    (hat : c.argTypes = #[t, u]) (he : ET P t e (byte 0) 1 1) (hs : Src P w u s r.length 1 (r.map byte)) (hS : St w0 w M (g ++ O)) (hw : OwnB w0.heap.size g v l e)
    (h63 : l.length + r.length ≤ 140737488355328) (hd : o.dst = some d) (hn : Nat.blt d n = true)
    (h : ∀ v' w' g', St w0 w' M (g' ++ O) → OwnB w0.heap.size g' v' (l ++ r) e → K ((d, v') :: L) w') : Stp P n o L w K :=
  Stp.append ho hf ha hat he (by decide) rfl hs hS hw (by omega) (by omega) hd hn fun v' w' g' h1 h2 => h v' w' g' h1 (by
    unfold OwnB
    rw [List.length_append, List.map_append]
    exact h2)
theorem OwnB.give {v : Value} {l : List UInt8} (h : OwnB w0.heap.size g v l e) (hS : St w0 w M (g ++ O)) : ∃ M', St w0 w M' O ∧ M.le M' ∧ Fresh M M' w0.heap.size ∧ Bs M' v l := by
  obtain ⟨h1, ⟨rfl, h3, rfl⟩ | ⟨b, cs, cap, rfl, hb, rfl, hcs, hm, hcap, ht⟩⟩ := h
  · have hl : l = [] := List.eq_nil_of_length_eq_zero h3
    subst hl
    exact ⟨M, hS, PH.le.refl _, Fresh.refl _ _, Bs.nil M⟩
  · have hf := hS.freeze (i := 0) (b := b) rfl hb
    refine ⟨_, hf.1, hf.2, Fresh.add _ hb, some ⟨b, 0, none⟩, cap, rfl, hm, hcap, (fun e => by cases e), fun j hj => ⟨b, 0, rfl, ?_⟩⟩
    rw [Nat.zero_add]
    refine PH.cell_of (PH.add_self _ _ _) ?_
    have e1 : (l.map byte)[j]? = some (byte (l.getD j 0)) := by
      have := bs_get hj
      simp only [bs, List.getElem?_toArray] at this
      exact this
    rw [← ht, List.getElem?_take] at e1
    rw [if_pos (by omega)] at e1
    simpa using e1
theorem OwnB.at {n0 : Nat} {v : Value} {l : List UInt8} (h : OwnB n0 g v l e) (h0 : 0 < l.length) : ∃ b cs cap, v = .slice (some ⟨b, 0, none⟩) l.length cap ∧ g = [(b, .cells cs e (0, 0))] ∧ ∀ j, j < l.length → cs[j]? = some (byte (l.getD j 0)) := by
  obtain ⟨h1, ⟨rfl, h3, rfl⟩ | ⟨b, cs, cap, rfl, hb, rfl, hcs, hm, hcap, ht⟩⟩ := h
  · omega
  · refine ⟨b, cs, cap, rfl, rfl, fun j hj => ?_⟩
    have e1 : (l.map byte)[j]? = some (byte (l.getD j 0)) := by
      have := bs_get hj
      simp only [bs, List.getElem?_toArray] at this
      exact this
    rw [← ht, List.getElem?_take] at e1
    rw [if_pos (by omega)] at e1
    simpa using e1
end
end Go.E
set_option linter.unusedVariables false
set_option linter.unusedSimpArgs false
namespace Go.E
open Go
section
variable {P : Program} {n : Nat} {L : Env} {w0 w : World} {M : PH} {O g : Owned} {o : Oper} {x y : Operand} {t t2 e : TypeId} {K : Env → World → Prop}
theorem Res.to {p : Prop} {_ : Decidable p} (h : Res P o L w (.bool (decide p))) (hp : p) : Res P o L w (.bool true) := by
  have e : decide p = true := decide_eq_true hp
  rw [e] at h; exact h
theorem Res.toF {p : Prop} {_ : Decidable p} (h : Res P o L w (.bool (decide p))) (hp : ¬ p) : Res P o L w (.bool false) := by
  have e : decide p = false := decide_eq_false hp
  rw [e] at h; exact h
theorem St.swap {p q : Nat × Obj} (h : St w0 w M (p :: q :: O)) : St w0 w M (q :: p :: O) :=
  ⟨h.os, h.tape, h.output, h.size, fun k hk hne => h.blk k hk fun x hx => hne x (by
    rcases List.mem_cons.1 hx with rfl | hx
    · simp
    · rcases List.mem_cons.1 hx with rfl | hx
      · simp
      · simp [hx]), h.on, fun x hx => h.own x (by
    rcases List.mem_cons.1 hx with rfl | hx
    · simp
    · rcases List.mem_cons.1 hx with rfl | hx
      · simp
      · simp [hx]), by
    have := h.nd
    simp only [List.map_cons, List.nodup_cons, List.mem_cons, not_or] at this ⊢
    exact ⟨⟨fun e => this.1.1 e.symm, this.2.1⟩, this.1.2, this.2.2⟩⟩
theorem St.below {w w' : World} {M : PH} (h : St w w' M []) : Go.RowKit.Below w.heap.size w w' :=
  ⟨h.os, h.tape, h.output, h.size, fun k hk => h.blk k hk (fun _ hx => by cases hx)⟩
def PH.all (w : World) : PH := fun i => w.heap[i]?
theorem PH.on (w : World) : On (PH.all w) w := fun _ _ h => h
end
end Go.E
set_option linter.unusedVariables false
set_option linter.unusedSimpArgs false
namespace Go.E
open Go Go.ChangeShapes Go.WideShapes
section
variable {H : Type} {enc : TypeId × Value → H} {P : Program} {W : World} {base b0 : Nat} {spare : Nat → Bool} {held : Bool} {t e : TypeId} {v : Value} {d : DataW H} {p : List MemPlace} {r : Reach}
def IsRow (w : World) (a : Option Addr) (len cap : Nat) (zs : List Int) : Prop :=
  (a = none ∧ len = 0 ∧ cap = 0 ∧ zs = []) ∨
  ∃ x, a = some x ∧ len ≤ cap ∧ cap ≤ maxLen ∧ zs.length = cap ∧ (∀ i, i < zs.length → w.cell? (x.add i) = some (.int .u8 (zs.getD i 0))) ∧ ∀ n ∈ zs, (Lit.int .u8 n).wf = true
theorem cell_spot {w : World} {b o : Nat} {s : Option Nat} {v : Value} (h : w.cell? ⟨b, o, s⟩ = some v) : s = none := by
  simp only [World.cell?] at h
  cases hb : w.heap[b]? with
  | none => simp [hb] at h
  | some ob =>
    cases ob with
    | cells c T fr =>
      rw [hb] at h
      cases s with
      | none => rfl
      | some _ => simp at h
    | _ => rw [hb] at h; cases h
theorem PH.cell_all {w : World} {b o : Nat} {v : Value} (h : w.cell? ⟨b, o, none⟩ = some v) : (PH.all w).cell b o = some v := by
  simp only [World.cell?] at h
  unfold PH.cell PH.all
  cases hb : w.heap[b]? with
  | none => simp [hb] at h
  | some ob =>
    cases ob with
    | cells c T fr => rw [hb] at h; simpa using h
    | _ => rw [hb] at h; cases h
theorem IsRow.bs {w : World} {a : Option Addr} {len cap : Nat} {zs : List Int} (h : IsRow w a len cap zs) : ∃ l : List UInt8, l.length = len ∧ Bs (PH.all w) (.slice a len cap) l := by
  rcases h with ⟨rfl, rfl, rfl, rfl⟩ | ⟨x, rfl, h1, h2, h3, h4, h5⟩
  · exact ⟨[], rfl, Bs.nil _⟩
  · have hlen : ((zs.take len).map fun n => UInt8.ofNat n.toNat).length = len := by simp; omega
    refine ⟨_, hlen, some x, cap, by rw [hlen], by omega, by unfold maxLen at h2; omega, (fun e => by cases e), fun j hj => ?_⟩
    obtain ⟨b, o, s⟩ := x
    have hj0 : j < zs.length := by omega
    have h0 := h4 0 (by omega)
    have hs : s = none := cell_spot (by simpa [Addr.add] using h0)
    subst hs
    refine ⟨b, o, rfl, ?_⟩
    have hc := h4 j hj0
    rw [addr_add] at hc
    rw [PH.cell_all hc]
    have hz : zs.getD j 0 = zs[j] := by simp [List.getD, hj0]
    have hw := bounds_u8 (h5 zs[j] (List.getElem_mem hj0))
    rw [hz]
    have hjl : j < len := by rw [hlen] at hj; exact hj
    have hd : ((zs.take len).map fun n => UInt8.ofNat n.toNat).getD j 0 = UInt8.ofNat zs[j].toNat := by
      simp [List.getD, hjl, hj0]
    rw [hd]
    unfold byte
    congr 2
    simp
    omega
end
end Go.E
set_option linter.unusedVariables false
namespace Go.E
open Go
section
variable {P : Program} {ops : Array Oper} {C : Exit → Act → World → Prop} {S : World → Prop} {z : List Nat}
def waitsB (ops : Array Oper) (i : Nat) : Nat → Nat → Bool
  | 0, _ => false
  | f + 1, d => match ops[d]? with
    | some o => o.after.any fun e => Region.binds .any e && (decide (e.on = i) || waitsB ops i f e.on)
    | none => false
def shutAt (ops : Array Oper) (listed : Array Bool) (j : Nat) : Bool := match ops[j]? with
  | some o => o.after.all fun e => !Region.binds .any e || listed.getD e.on false
  | none => true
def shutB (ops : Array Oper) (listed : Array Bool) : Bool := (List.range ops.size).all fun j => !listed.getD j false || shutAt ops listed j
def ShutL (ops : Array Oper) (listed : Array Bool) : Prop := ∀ j o, ops[j]? = some o → listed.getD j false = true → ∀ e ∈ o.after, Region.binds .any e = true → listed.getD e.on false = true
theorem shutB_spec {listed : Array Bool} (h : shutB ops listed = true) : ShutL ops listed := fun j o hj hl e he hb => by
  have hlt : j < ops.size := (Array.getElem?_eq_some_iff.1 hj).1
  have h1 := List.all_eq_true.1 h j (List.mem_range.2 hlt)
  simp only [hl, Bool.not_true, Bool.false_or, shutAt, hj] at h1
  have h2 := Array.all_eq_true_iff_forall_mem.1 h1 e he
  simpa [hb] using h2
theorem ShutL.set {listed : Array Bool} {i : Nat} (h : ShutL ops listed) (hi : i ∈ Region.ready .any ops listed) : ShutL ops (listed.setIfInBounds i true) := fun j o hj hl e he hb => by
  obtain ⟨_, oi, hoi, hall⟩ := mem_ready.1 hi
  by_cases hij : i = j
  · subst hij
    obtain rfl : o = oi := Option.some.inj (hj.symm.trans hoi)
    exact getD_set_true (hall e he hb)
  · rw [getD_set_ne false hij] at hl
    exact getD_set_true (h j o hj hl e he hb)
theorem waits_listed {listed : Array Bool} {i : Nat} (hc : ShutL ops listed) : ∀ (f d : Nat), waitsB ops i f d = true → (∀ o, ops[d]? = some o → ∀ e ∈ o.after, Region.binds .any e = true → listed.getD e.on false = true) → listed.getD i false = true
  | 0, _, h, _ => by simp [waitsB] at h
  | f + 1, d, h, hl => by
    unfold waitsB at h
    cases ho : ops[d]? with
    | none => rw [ho] at h; simp at h
    | some o =>
      rw [ho] at h
      obtain ⟨e, he, h1⟩ := Array.any_eq_true'.1 h
      simp only [Bool.and_eq_true, Bool.or_eq_true, decide_eq_true_eq] at h1
      have hle := hl o ho e he h1.1
      rcases h1.2 with h2 | h2
      · rw [← h2]; exact hle
      · exact waits_listed hc f e.on h2 fun o' ho' => hc e.on o' ho' hle
theorem unlisted {listed : Array Bool} {i : Nat} (h : listed.getD i true = false) : listed.getD i false = false := by
  rcases Nat.lt_or_ge i listed.size with h' | h'
  · simp [h'] at h ⊢; exact h
  · simp [Array.getElem?_eq_none h'] at h
def anyZ (P : Program) (ops : Array Oper) (C : Exit → Act → World → Prop) (S : World → Prop) (z : List Nat) : Nat → Array Bool → Act → World → Prop
  | 0, listed, a, w => Region.ready .any ops listed = [] ∧ C .normal a w
  | f + 1, listed, a, w => (Region.ready .any ops listed = [] → C .normal a w) ∧
    ∀ i ∈ Region.ready .any ops listed, wpOp P ops C i (fun a' w' => (i ∉ z → S w') ∧ anyZ P ops C S z f (listed.setIfInBounds i true) a' w') a w
theorem anyZ_any : ∀ (f : Nat) (listed : Array Bool) (a : Act) (w : World), anyZ P ops C S z f listed a w → wpAny P .any ops C f listed a w
  | 0, _, _, _, h => h
  | f + 1, _, _, _, h => ⟨h.1, fun i hi => wpOp_mono (fun a' w' h' => anyZ_any f _ a' w' h'.2) (h.2 i hi)⟩
theorem anyZ_first {i : Nat} {oi : Oper} {v : Value} (hi : ops[i]? = some oi) (hsel : ∀ (j : Nat) (o : Oper) cs b, ops[j]? = some o → o.op ≠ .select cs b)
    (hC : ∀ c a w, C (.panic c) (a.put oi.dst v) w → C (.panic c) a w) (n : Nat) : ∀ (f : Nat) (listed : Array Bool) (a : Act) (w : World),
    (∀ j oj, ops[j]? = some oj → j ≠ i → listed.getD j true = false → (∀ e ∈ oj.after, Region.binds .any e = true → e.on ≠ i) → oi.apart ops oj = true) →
    (∀ d ∈ z, listed.getD d true = false → waitsB ops i n d = true) → ShutL ops listed → i ∈ Region.ready .any ops listed → YieldsIf P ops S oi v a → S w →
    anyZ P ops C S z f (listed.setIfInBounds i true) (a.put oi.dst v) w → anyZ P ops C S z (f + 1) listed a w := by
  intro f
  induction f with
  | zero =>
    intro listed a w _ _ _ hr hy hS H
    refine ⟨fun h => (by rw [h] at hr; cases hr), fun j hj => ?_⟩
    by_cases hji : j = i
    · subst hji; exact hy.wpOp hi hS ⟨fun _ => hS, H⟩
    · have := ready_mono hj hji
      rw [H.1] at this
      cases this
  | succ f ih =>
    intro listed a w hfree hz hc hr hy hS H
    refine ⟨fun h => (by rw [h] at hr; cases hr), fun j hj => ?_⟩
    by_cases hji : j = i
    · subst hji; exact hy.wpOp hi hS ⟨fun _ => hS, H⟩
    · obtain ⟨hjun, oj, hoj, hall⟩ := mem_ready.1 hj
      have hiun := unlisted (mem_ready.1 hr).1
      have hnot : ∀ e ∈ oj.after, Region.binds .any e = true → e.on ≠ i := fun e he hb heq => by
        have h1 := hall e he hb
        rw [heq, hiun] at h1
        cases h1
      have hjz : j ∉ z := fun e => by
        have := waits_listed hc n j (hz j e hjun) fun o ho e he hb => by
          obtain rfl : o = oj := Option.some.inj (ho.symm.trans hoj)
          exact hall e he hb
        rw [hiun] at this
        cases this
      have h2 := wpOp_putIf hoj (hfree j oj hoj hji hjun hnot) (fun cs b => hsel i oi cs b hi) (fun cs b => hsel j oj cs b hoj) hC hy (H.2 j (ready_mono hj hji))
      have hfree' : ∀ k ok, ops[k]? = some ok → k ≠ i → (listed.setIfInBounds j true).getD k true = false → (∀ e ∈ ok.after, Region.binds .any e = true → e.on ≠ i) → oi.apart ops ok = true := fun k ok hk hki hun hno => by
        refine hfree k ok hk hki ?_ hno
        by_cases hjk : j = k
        · subst hjk; exact hjun
        · rw [getD_set_ne true hjk] at hun; exact hun
      have hz' : ∀ d ∈ z, (listed.setIfInBounds j true).getD d true = false → waitsB ops i n d = true := fun d hm hun => by
        refine hz d hm ?_
        by_cases hjk : j = d
        · subst hjk; exact hjun
        · rw [getD_set_ne true hjk] at hun; exact hun
      refine wpOp_mono (fun a' w' h3 => ⟨h3.2.1, ih (listed.setIfInBounds j true) a' w' hfree' hz' (hc.set hj) (ready_mono hr (Ne.symm hji)) h3.1 (h3.2.1 hjz) ?_⟩) h2
      rw [Array.setIfInBounds_comm _ _ hji]
      exact h3.2.2
def takeZ (ops : Array Oper) (z : List Nat) (listed : Array Bool) (i : Nat) : Bool :=
  Region.noSelect ops && (Region.free .any ops listed i && ((Region.ready .any ops listed).contains i && (shutB ops listed && z.all fun d => listed.getD d true || waitsB ops i ops.size d)))
theorem anyZ_take {i : Nat} {oi : Oper} {v : Value} {f : Nat} {listed : Array Bool} {a : Act} {w : World} (hi : ops[i]? = some oi) (hc : takeZ ops z listed i = true)
    (hC : ∀ c a w, C (.panic c) (a.put oi.dst v) w → C (.panic c) a w) (hy : YieldsIf P ops S oi v a) (hS : S w)
    (h : anyZ P ops C S z f (listed.setIfInBounds i true) (a.put oi.dst v) w) : anyZ P ops C S z (f + 1) listed a w := by
  simp only [takeZ, Bool.and_eq_true] at hc
  obtain ⟨h1, h2, h3, h4, h5⟩ := hc
  have h6 : ∀ d ∈ z, listed.getD d true = false → waitsB ops i ops.size d = true := fun d hm hun => by
    have := List.all_eq_true.1 h5 d hm
    rw [hun] at this
    simpa using this
  exact anyZ_first hi (Region.noSelect_spec h1) hC ops.size f listed a w (Region.free_spec hi h2) h6 (shutB_spec h4) (by simpa using h3) hy hS h
end
section
variable {P : Program} {n : Nat} {ops : Array Oper} {Q : Post} {S : World → Prop} {z : List Nat} {f : Nat} {listed : Array Bool} {L : Env} {w : World} {o : Oper}
def ZL (P : Program) (n : Nat) (ops : Array Oper) (Q : Post) (S : World → Prop) (z : List Nat) (f : Nat) (listed : Array Bool) (L : Env) (w : World) : Prop :=
  ∀ a, Fits n L a → anyZ P ops (lift n Q) S z f listed a w
theorem CW.last {id : Nat} {l : List Oper} (S : World → Prop) (z : List Nat) (hm : P.follows .mixedOrders = true)
    (h : ZL P n l.toArray Q S z l.length (List.replicate l.length false).toArray L w.drew) : CW P n (.region id l.toArray true) Q L w := fun a ha =>
  wp_region_any hm (anyZ_any _ _ _ _ (by simpa using h a ha))
theorem ZL.take {v : Value} {d : Nat} (i : Nat) (hi : ops[i]? = some o) (hc : takeZ ops z listed i = true) (hg : o.guard = none) (hd : o.dst = some d) (hn : Nat.blt d n = true) (hS : S w) (h : ∀ w, S w → Res P o L w v)
    (k : ZL P n ops Q S z f (listed.setIfInBounds i true) ((d, v) :: L) w) : ZL P n ops Q S z (f + 1) listed L w := fun a ha => by
  refine anyZ_take hi hc (fun _ _ _ h => h) (.inl ⟨by simp [Region.wanted, hg], fun w hw => h w hw n a ha⟩) hS ?_
  rw [hd]
  exact k _ (ha.put (blt_lt hn) v)
theorem ZL.one (i : Nat) (hi : ops[i]? = some o) (hr : Region.ready .any ops listed = [i]) (hg : o.guard = none)
    (h : Stp P n o L w (fun L' w' => S w' ∧ ZL P n ops Q S z f (listed.setIfInBounds i true) L' w')) : ZL P n ops Q S z (f + 1) listed L w := fun a ha => by
  refine ⟨fun h0 => (by rw [hr] at h0; cases h0), fun j hj => ?_⟩
  rw [hr] at hj
  rw [List.mem_singleton.1 hj]
  unfold wpOp
  simp only [hi]
  rw [if_pos (by simp [Region.wanted, hg])]
  exact .inl (Oper.wp_mono' (h a ha _) fun a' w' ⟨L', hf, hk⟩ => ⟨fun _ => hk.1, hk.2 a' hf⟩)
theorem ZL.end (i : Nat) (hz : (z.contains i) = true) (hi : ops[i]? = some o) (hr : Region.ready .any ops listed = [i]) (hg : o.guard = none)
    (h : Stp P n o L w (fun L' w' => ZL P n ops Q S z f (listed.setIfInBounds i true) L' w')) : ZL P n ops Q S z (f + 1) listed L w := fun a ha => by
  refine ⟨fun h0 => (by rw [hr] at h0; cases h0), fun j hj => ?_⟩
  rw [hr] at hj
  rw [List.mem_singleton.1 hj]
  unfold wpOp
  simp only [hi]
  rw [if_pos (by simp [Region.wanted, hg])]
  exact .inl (Oper.wp_mono' (h a ha _) fun a' w' ⟨L', hf, hk⟩ => ⟨fun e => absurd (by simpa using hz) e, hk a' hf⟩)
theorem ZL.done (hr : Region.ready .any ops listed = []) (h : Q .normal L w) : ZL P n ops Q S z f listed L w := fun a ha => by
  cases f with
  | zero => exact ⟨hr, L, ha, h⟩
  | succ f => exact ⟨fun _ => ⟨L, ha, h⟩, fun i hi => by rw [hr] at hi; cases hi⟩
end
end Go.E
