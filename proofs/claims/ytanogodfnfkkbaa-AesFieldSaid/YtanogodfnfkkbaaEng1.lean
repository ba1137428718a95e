/- A small proof engine over the kit's 'Code.wp', 'wpList', 'Calls': frames as association lists. -/
import Derived.WalkKit
import Derived.Laws.Rows
import Derived.Laws.MakeOwn
import Derived.Lib.ConvBytes
import Derived.OrdersHeld
import Derived.StillTail
namespace Go.E
open Go

set_option linter.unusedVariables false
set_option linter.unusedSimpArgs false
theorem blt_lt {a b : Nat} (h : Nat.blt a b = true) : a < b := by simpa using h
/-! ### environments -/
abbrev Env := List (Nat × Value)
def Env.get : Env → Nat → Option Value
  | [], _ => none
  | (k, v) :: r, t => bif Nat.beq k t then some v else Env.get r t

def Env.ev (L : Env) : Operand → Option Value
  | .tmp t => L.get t
  | .const v => some v
  | .global g => some (.pointer (some ⟨g, 0, none⟩))
  | .func f => some (.func (.func f) #[] #[])

structure Fits (n : Nat) (L : Env) (a : Act) : Prop where
  size : a.tmps.size = n
  defers : a.defers = []
  has : ∀ t v, L.get t = some v → a.tmps[t]? = some v

theorem Fits.ev {n : Nat} {L : Env} {a : Act} (h : Fits n L a) {x : Operand} {v : Value} (hx : L.ev x = some v) : a.eval x = v := by
  cases x with
  | tmp t => simp only [Env.ev] at hx; simp [Act.eval, h.has t v hx]
  | const u => simp only [Env.ev, Option.some.injEq] at hx; exact hx
  | global g => simp only [Env.ev, Option.some.injEq] at hx; exact hx
  | func f => simp only [Env.ev, Option.some.injEq] at hx; exact hx

theorem Fits.put {n : Nat} {L : Env} {a : Act} (h : Fits n L a) {d : Nat} (hd : d < n) (v : Value) : Fits n ((d, v) :: L) (a.put (some d) v) := by
  refine ⟨by simp [Act.put, h.size], by simp [Act.put, h.defers], fun t u hu => ?_⟩
  simp only [Env.get] at hu
  cases hb : Nat.beq d t with
  | true =>
    have e := Nat.eq_of_beq_eq_true hb
    subst e
    simp only [hb, cond_true, Option.some.injEq] at hu
    subst hu
    simp only [Act.put]
    rw [Array.getElem?_setIfInBounds_self_of_lt (by rw [h.size]; exact hd)]
  | false =>
    simp only [hb, cond_false] at hu
    have hne : d ≠ t := fun e => by subst e; simp at hb
    simp only [Act.put]
    rw [Array.getElem?_setIfInBounds_ne hne]
    exact h.has t u hu

theorem Fits.putNone {n : Nat} {L : Env} {a : Act} (h : Fits n L a) (v : Value) : Fits n L (a.put none v) := h

/-- every slot of L' reads so in L -/
def Sub : Env → Env → Prop
  | [], _ => True
  | (k, v) :: r, L => L.get k = some v ∧ Sub r L

theorem Sub.get {L' L : Env} (h : Sub L' L) : ∀ t v, L'.get t = some v → L.get t = some v := by
  induction L' with
  | nil => intro t v hv; simp [Env.get] at hv
  | cons p r ih =>
    obtain ⟨k, u⟩ := p
    intro t v hv
    simp only [Env.get] at hv
    cases hb : Nat.beq k t with
    | true =>
      have e := Nat.eq_of_beq_eq_true hb
      subst e
      simp only [hb, cond_true, Option.some.injEq] at hv
      subst hv
      exact h.1
    | false =>
      simp only [hb, cond_false] at hv
      exact ih h.2 t v hv

theorem Fits.sub {n : Nat} {L L' : Env} {a : Act} (h : Fits n L a) (hs : Sub L' L) : Fits n L' a :=
  ⟨h.size, h.defers, fun t v hv => h.has t v (hs.get t v hv)⟩

/-! ### code -/
abbrev Post := Exit → Env → World → Prop
def lift (n : Nat) (Q : Post) : Exit → Act → World → Prop
  | .panic _, _, _ => False
  | .outgrown, _, _ => False
  | .normal, a, w => ∃ L, Fits n L a ∧ Q .normal L w
  | .ret, a, w => ∃ L, Fits n L a ∧ Q .ret L w
  | .exit i, a, w => ∃ L, Fits n L a ∧ Q (.exit i) L w
  | .goto i, a, w => ∃ L, Fits n L a ∧ Q (.goto i) L w

/-- code c, entered with a frame that fits L in the world w, comes to Q -/
def CW (P : Program) (n : Nat) (c : Code) (Q : Post) (L : Env) (w : World) : Prop := ∀ a, Fits n L a → c.wp P (lift n Q) a w
/-- the same of a list of operations, in the text's order -/
def WL (P : Program) (n : Nat) (ops : Array Oper) (Q : Post) (l : List Oper) (L : Env) (w : World) : Prop := ∀ a, Fits n L a → wpList P ops (lift n Q) l a w

def Thn (K : Env → World → Prop) (Q : Post) : Post
  | .normal, L, w => K L w
  | e, L, w => Q e L w
def Blk (id : Nat) (Q : Post) : Post
  | .exit i, L, w => bif Nat.beq i id then Q .normal L w else Q (.exit i) L w
  | e, L, w => Q e L w

section
variable {P : Program} {n : Nat} {Q : Post} {L : Env} {w : World} {ops : Array Oper} {rest : List Oper} {o : Oper}

theorem CW.sub {c : Code} {L' : Env} (hs : Sub L' L) (h : CW P n c Q L' w) : CW P n c Q L w := fun a ha => h a (ha.sub hs)
theorem WL.sub {L' : Env} (hs : Sub L' L) (h : WL P n ops Q rest L' w) : WL P n ops Q rest L w := fun a ha => h a (ha.sub hs)

theorem CW.seq {x y : Code} (h : CW P n x (Thn (CW P n y Q) Q) L w) : CW P n (.seq x y) Q L w := fun a ha => by
  refine wp_seq (wp_mono (h a ha) fun e a' w' he => ?_)
  cases e with
  | normal => obtain ⟨L', hf, hq⟩ := he; exact hq a' hf
  | _ => exact he

theorem CW.skip (h : Q .normal L w) : CW P n .skip Q L w := fun _ ha => wp_skip ⟨L, ha, h⟩
theorem CW.skipT {K : Env → World → Prop} {Q : Post} (h : K L w) : CW P n .skip (Thn K Q) L w := fun _ ha => wp_skip ⟨L, ha, h⟩
theorem CW.ret (h : Q .ret L w) : CW P n .ret Q L w := fun _ ha => wp_ret ⟨L, ha, h⟩
theorem CW.exit {id : Nat} (h : Q (.exit id) L w) : CW P n (.exit id) Q L w := fun _ ha => wp_exit ⟨L, ha, h⟩
theorem CW.block {id : Nat} {c : Code} (h : CW P n c (Blk id Q) L w) : CW P n (.block id c) Q L w := fun a ha => by
  refine wp_block (wp_mono (h a ha) fun e a' w' he => ?_)
  cases e with
  | exit i =>
    obtain ⟨L', hf, hq⟩ := he
    simp only [Exit.inBlock]
    simp only [Blk] at hq
    by_cases hi : i = id
    · subst hi; simp only [Nat.beq_refl, cond_true] at hq; simp only [if_true]; exact ⟨L', hf, hq⟩
    · have : Nat.beq i id = false := by cases hb : Nat.beq i id with
        | true => exact absurd (Nat.eq_of_beq_eq_true hb) hi
        | false => rfl
      simp only [this, cond_false] at hq; simp only [hi, if_false]; exact ⟨L', hf, hq⟩
  | _ => exact he
theorem CW.cond {c : Operand} {x y : Code} {t : Bool} (hc : L.ev c = some (.bool t)) (ht : t = true → CW P n x Q L w) (hf : t = false → CW P n y Q L w) : CW P n (.cond c x y) Q L w :=
  fun a ha => wp_cond_split (ha.ev hc) (fun h => ht h a ha) (fun h => hf h a ha)
theorem CW.condT {c : Operand} {x y : Code} (hc : L.ev c = some (.bool true)) (h : CW P n x Q L w) : CW P n (.cond c x y) Q L w :=
  fun a ha => wp_cond_true (ha.ev hc) (h a ha)
theorem CW.condF {c : Operand} {x y : Code} (hc : L.ev c = some (.bool false)) (h : CW P n y Q L w) : CW P n (.cond c x y) Q L w :=
  fun a ha => wp_cond_false (ha.ev hc) (h a ha)
/-- a test on a decidable proposition -/
theorem CW.ite {c : Operand} {x y : Code} {p : Prop} {_ : Decidable p} (hc : L.ev c = some (.bool (decide p))) (ht : p → CW P n x Q L w) (hf : ¬ p → CW P n y Q L w) : CW P n (.cond c x y) Q L w :=
  CW.cond hc (fun h => ht (of_decide_eq_true h)) (fun h => hf (of_decide_eq_false h))

/-- a loop: the frame as a function of a state, an invariant on state and world, a measure -/
theorem CW.loop {σ : Type} {c : Code} (env : σ → Env) (I : σ → World → Prop) (μ : σ → Nat) (s0 : σ) (hs : Sub (env s0) L) (h0 : I s0 w)
    (round : ∀ s w, I s w → CW P n c (Thn (fun L' w' => ∃ s', Sub (env s') L' ∧ I s' w' ∧ μ s' < μ s) Q) (env s) w) : CW P n (.loop c) Q L w := fun a ha => by
  intro b k cs
  have key : ∀ m s a w, μ s = m → Fits n (env s) a → I s w →
      ∃ e a' w', lift n Q e a' w' ∧ Arrives P (lone (b.at a (.code c :: .inLoop c :: k)) cs w) b k cs e a' w' := by
    intro m
    induction m using Nat.strongRecOn with
    | _ m ih =>
      intro s a w hm hf hI
      obtain ⟨e, a₁, w₁, hq, harr⟩ := round s w hI a hf b (.inLoop c :: k) cs
      cases e with
      | normal =>
        obtain ⟨L₁, hf₁, hq⟩ := hq
        obtain ⟨s', hs', hI', hlt⟩ := hq
        obtain ⟨e₂, a₂, w₂, hq₂, harr₂⟩ := ih (μ s') (hm ▸ hlt) s' a₁ w₁ rfl (hf₁.sub hs') hI'
        exact ⟨e₂, a₂, w₂, hq₂, .of_steps (Steps.trans harr (.one step_inLoop)) harr₂⟩
      | exit id => exact ⟨.exit id, a₁, w₁, (show lift n Q (.exit id) a₁ w₁ from hq), .pass (x := .inLoop c) rfl (fun _ _ => .inl (by simp)) harr⟩
      | goto l => exact ⟨.goto l, a₁, w₁, (show lift n Q (.goto l) a₁ w₁ from hq), .pass (x := .inLoop c) rfl (fun _ _ => .inl (by simp)) harr⟩
      | ret => exact ⟨.ret, a₁, w₁, (show lift n Q .ret a₁ w₁ from hq), .pass (x := .inLoop c) rfl (fun _ _ => .inl (by simp)) harr⟩
      | panic ch => exact ⟨.panic ch, a₁, w₁, (show lift n Q (.panic ch) a₁ w₁ from hq), .pass (x := .inLoop c) rfl (fun _ _ => .inl (by simp)) harr⟩
      | outgrown => exact ⟨.outgrown, a₁, w₁, (show lift n Q .outgrown a₁ w₁ from hq), .pass (x := .inLoop c) rfl (fun _ _ => .inl (by simp)) harr⟩
  obtain ⟨e, a', w', hq, harr⟩ := key _ s0 a w rfl (ha.sub hs) h0
  exact ⟨e, a', w', hq, .of_steps (.one step_loop) harr⟩

/-! ### one operation -/
/-- operation o, in a frame that fits L, in w, comes to K -/
def Stp (P : Program) (n : Nat) (o : Oper) (L : Env) (w : World) (K : Env → World → Prop) : Prop :=
  ∀ a, Fits n L a → ∀ Q, o.wp P a w (fun a' w' => ∃ L', Fits n L' a' ∧ K L' w') Q
theorem Oper.wp_mono' {o : Oper} {a : Act} {w : World} {K K' : Act → World → Prop} {Q : Exit → Act → World → Prop} (hh : o.wp P a w K Q) (h : ∀ a w, K a w → K' a w) : o.wp P a w K' Q := Oper.wp_mono h hh
theorem WL.step (hg : o.guard = none) (h : Stp P n o L w (WL P n ops Q rest)) : WL P n ops Q (o :: rest) L w := fun a ha =>
  wpList_plain hg fun K hK => Oper.wp_mono' (h a ha _) fun a' w' ⟨L', hf, hk⟩ => hK _ _ (hk a' hf)
theorem wanted_of {j : Nat} {want : Bool} {g : Oper} {t : Nat} {b : Bool} {a : Act} (ha : Fits n L a) (hg : o.guard = some (j, want)) (hj : ops[j]? = some g) (ht : g.dst = some t) (hb : L.get t = some (.bool b)) :
    Region.wanted o (yielded ops a.tmps) = (b == want) := by
  have h1 := ha.has t _ hb
  have h2 : yielded ops a.tmps j = some b := by
    unfold yielded
    simp [hj, ht, h1]
  simp only [Region.wanted, hg, h2]
  cases b <;> cases want <;> rfl
/-- a guarded operation that is wanted -/
theorem WL.stepG (j : Nat) (want : Bool) {g : Oper} {t : Nat} (hg : o.guard = some (j, want)) (hj : ops[j]? = some g) (ht : g.dst = some t) (hb : L.get t = some (.bool want))
    (h : Stp P n o L w (WL P n ops Q rest)) : WL P n ops Q (o :: rest) L w := fun a ha => by
  refine wpList_step fun K hK => ?_
  rw [if_pos (by rw [wanted_of ha hg hj ht hb]; simp)]
  exact Oper.wp_mono' (h a ha _) fun a' w' ⟨L', hf, hk⟩ => hK _ _ (hk a' hf)
/-- a guarded operation that is not wanted -/
theorem WL.skipG (j : Nat) (want : Bool) {g : Oper} {t d : Nat} (hg : o.guard = some (j, want)) (hj : ops[j]? = some g) (ht : g.dst = some t) (hb : L.get t = some (.bool (!want)))
    (hd : o.dst = some d) (hn : Nat.blt d n = true) (h : WL P n ops Q rest ((d, undef) :: L) w) : WL P n ops Q (o :: rest) L w := fun a ha => by
  refine wpList_step fun K hK => ?_
  rw [if_neg (by rw [wanted_of ha hg hj ht hb]; simp), hd]
  exact hK _ _ (h _ (ha.put (blt_lt hn) _))
theorem WL.skipG0 (j : Nat) (want : Bool) {g : Oper} {t : Nat} (hg : o.guard = some (j, want)) (hj : ops[j]? = some g) (ht : g.dst = some t) (hb : L.get t = some (.bool (!want)))
    (hd : o.dst = none) (h : WL P n ops Q rest L w) : WL P n ops Q (o :: rest) L w := fun a ha => by
  refine wpList_step fun K hK => ?_
  rw [if_neg (by rw [wanted_of ha hg hj ht hb]; simp), hd]
  exact hK _ _ (h _ ha)
theorem WL.nil (h : Q .normal L w) : WL P n ops Q [] L w := fun _ ha => wpList_nil ⟨L, ha, h⟩
theorem WL.nilT {K : Env → World → Prop} (h : K L w) : WL P n ops (Thn K Q) [] L w := fun _ ha => wpList_nil ⟨L, ha, h⟩
theorem CW.region {id : Nat} {l : List Oper} (h : WL P n l.toArray Q l L w) : CW P n (.region id l.toArray false) Q L w := fun a ha => wp_region_lit (h a ha)

/-- what an operation yields without turning the world -/
def Res (P : Program) (o : Oper) (L : Env) (w : World) (v : Value) : Prop := ∀ n a, Fits n L a → (execOp a.eval o).run P w = .ok (.value v) w
theorem Stp.res {v : Value} {d : Nat} {K : Env → World → Prop} (hd : o.dst = some d) (hn : Nat.blt d n = true) (h : Res P o L w v) (k : K ((d, v) :: L) w) : Stp P n o L w K := fun a ha Q => by
  unfold Oper.wp
  rw [h n a ha]
  simp only [Oper.upon, hd]
  exact ⟨_, ha.put (blt_lt hn) v, k⟩
theorem Stp.resW {v : Value} {w' : World} {d : Nat} {K : Env → World → Prop} (hd : o.dst = some d) (hn : Nat.blt d n = true) (h : ∀ n a, Fits n L a → (execOp a.eval o).run P w = .ok (.value v) w') (k : K ((d, v) :: L) w') : Stp P n o L w K := fun a ha Q => by
  unfold Oper.wp
  rw [h n a ha]
  simp only [Oper.upon, hd]
  exact ⟨_, ha.put (blt_lt hn) v, k⟩
theorem Stp.unitW {w' : World} {K : Env → World → Prop} (hd : o.dst = none) (h : ∀ n a, Fits n L a → (execOp a.eval o).run P w = .ok .skip w') (k : K L w') : Stp P n o L w K := fun a ha Q => by
  unfold Oper.wp
  rw [h n a ha]
  simp only [Oper.upon, hd]
  exact ⟨_, ha, k⟩

/-! ### a region that draws its order: first those that only read, then the rest in the text's order -/
def SL (P : Program) (n : Nat) (ops : Array Oper) (w : World) (K : Env → Prop) (l : List Oper) (L : Env) : Prop :=
  ∀ a, Fits n L a → wpStill P ops w (fun a' => ∃ L', Fits n L' a' ∧ K L') l a
theorem SL.nil {K : Env → Prop} (h : K L) : SL P n ops w K [] L := fun _ ha => ⟨L, ha, h⟩
theorem SL.step {K : Env → Prop} {v : Value} {d : Nat} (hg : o.guard = none) (hd : o.dst = some d) (hn : Nat.blt d n = true) (h : Res P o L w v) (k : SL P n ops w K rest ((d, v) :: L)) : SL P n ops w K (o :: rest) L := fun a ha => by
  refine wpStill_step fun K' hK => ?_
  rw [if_pos (by simp [Region.wanted, hg])]
  unfold Oper.still
  rw [h n a ha]
  simp only [Oper.stillUpon, hd, true_and]
  exact hK _ (k _ (ha.put (blt_lt hn) v))
theorem SL.stepG {K : Env → Prop} {v : Value} {d : Nat} (j : Nat) (want : Bool) {g : Oper} {t : Nat} (hg : o.guard = some (j, want)) (hj : ops[j]? = some g) (ht : g.dst = some t) (hb : L.get t = some (.bool want))
    (hd : o.dst = some d) (hn : Nat.blt d n = true) (h : Res P o L w v) (k : SL P n ops w K rest ((d, v) :: L)) : SL P n ops w K (o :: rest) L := fun a ha => by
  refine wpStill_step fun K' hK => ?_
  rw [if_pos (by rw [wanted_of ha hg hj ht hb]; simp)]
  unfold Oper.still
  rw [h n a ha]
  simp only [Oper.stillUpon, hd, true_and]
  exact hK _ (k _ (ha.put (blt_lt hn) v))
theorem SL.skipG {K : Env → Prop} {d : Nat} (j : Nat) (want : Bool) {g : Oper} {t : Nat} (hg : o.guard = some (j, want)) (hj : ops[j]? = some g) (ht : g.dst = some t) (hb : L.get t = some (.bool (!want)))
    (hd : o.dst = some d) (hn : Nat.blt d n = true) (k : SL P n ops w K rest ((d, undef) :: L)) : SL P n ops w K (o :: rest) L := fun a ha => by
  refine wpStill_step fun K' hK => ?_
  rw [if_neg (by rw [wanted_of ha hg hj ht hb]; simp), hd]
  exact hK _ (k _ (ha.put (blt_lt hn) _))
theorem CW.still {id : Nat} {l : List Oper} (hm : P.follows .mixedOrders = true) (hB : Region.lexB .any l.toArray = true)
    (h : SL P n l.toArray w.drew (fun L' => Q .normal L' w.drew) l L) : CW P n (.region id l.toArray true) Q L w := fun a ha =>
  wp_region_still_lit hm hB (h a ha)
theorem CW.stillT {K : Env → World → Prop} {id : Nat} {l : List Oper} (hm : P.follows .mixedOrders = true) (hB : Region.lexB .any l.toArray = true)
    (h : SL P n l.toArray w.drew (fun L' => K L' w.drew) l L) : CW P n (.region id l.toArray true) (Thn K Q) L w := fun a ha =>
  wp_region_still_lit hm hB (h a ha)
theorem CW.tail {id : Nat} {l : List Oper} (k : Nat) (hm : P.follows .mixedOrders = true) (hB : Region.lexTailB .any l.toArray k = true)
    (h : SL P n l.toArray w.drew (fun L' => WL P n l.toArray Q (l.drop k) L' w.drew) (l.take k) L) : CW P n (.region id l.toArray true) Q L w := fun a ha => by
  refine wp_region_still_tail k hm hB ?_
  have h1 := h a ha
  have mono : ∀ (m : List Oper) (a : Act) (K K' : Act → Prop), (∀ a, K a → K' a) → wpStill P l.toArray w.drew K m a → wpStill P l.toArray w.drew K' m a := by
    intro m
    induction m with
    | nil => intro a K K' hk h; exact hk _ h
    | cons o m ih =>
      intro a K K' hk h
      simp only [wpStill] at h ⊢
      split at h
      · rename_i hw; rw [if_pos hw]; exact Oper.still_mono (fun a h => ih a K K' hk h) h
      · rename_i hw; rw [if_neg hw]; exact ih _ K K' hk h
  exact mono _ _ _ _ (fun a' ⟨L', hf, hk⟩ => hk a' hf) h1

/-! ### a region that draws its order and holds calls -/
def AL (P : Program) (n : Nat) (ops : Array Oper) (Q : Post) (S : World → Prop) (fuel : Nat) (listed : Array Bool) (L : Env) (w : World) : Prop :=
  ∀ a, Fits n L a → wpAnyH P .any ops (lift n Q) S fuel listed a w
theorem CW.held {id : Nat} {l : List Oper} (S : World → Prop) (hm : P.follows .mixedOrders = true)
    (h : AL P n l.toArray Q S l.length (List.replicate l.length false).toArray L w.drew) : CW P n (.region id l.toArray true) Q L w := fun a ha =>
  wp_region_held (S := S) hm (by simpa using h a ha)
section
variable {S : World → Prop} {fuel : Nat} {listed : Array Bool}
theorem AL.take {v : Value} {d : Nat} (i : Nat) (hi : ops[i]? = some o) (hs : Region.noSelect ops = true) (hf : Region.free .any ops listed i = true) (hr : (Region.ready .any ops listed).contains i = true)
    (hg : o.guard = none) (hd : o.dst = some d) (hn : Nat.blt d n = true) (hS : S w) (h : ∀ w, S w → Res P o L w v)
    (k : AL P n ops Q S fuel (listed.setIfInBounds i true) ((d, v) :: L) w) : AL P n ops Q S (fuel + 1) listed L w := fun a ha => by
  refine wpAnyH_take hi hs hf hr (fun _ _ _ h => h) (.inl ⟨by simp [Region.wanted, hg], fun w hw => h w hw n a ha⟩) hS ?_
  rw [hd]
  exact k _ (ha.put (blt_lt hn) v)
theorem AL.takeG {v : Value} {d : Nat} (i : Nat) (j : Nat) (want : Bool) {g : Oper} {t : Nat} (hi : ops[i]? = some o) (hs : Region.noSelect ops = true) (hf : Region.free .any ops listed i = true) (hr : (Region.ready .any ops listed).contains i = true)
    (hg : o.guard = some (j, want)) (hj : ops[j]? = some g) (ht : g.dst = some t) (hb : L.get t = some (.bool want)) (hd : o.dst = some d) (hn : Nat.blt d n = true) (hS : S w) (h : ∀ w, S w → Res P o L w v)
    (k : AL P n ops Q S fuel (listed.setIfInBounds i true) ((d, v) :: L) w) : AL P n ops Q S (fuel + 1) listed L w := fun a ha => by
  refine wpAnyH_take hi hs hf hr (fun _ _ _ h => h) (.inl ⟨by rw [wanted_of ha hg hj ht hb]; simp, fun w hw => h w hw n a ha⟩) hS ?_
  rw [hd]
  exact k _ (ha.put (blt_lt hn) v)
theorem AL.skipG {d : Nat} (i : Nat) (j : Nat) (want : Bool) {g : Oper} {t : Nat} (hi : ops[i]? = some o) (hs : Region.noSelect ops = true) (hf : Region.free .any ops listed i = true) (hr : (Region.ready .any ops listed).contains i = true)
    (hg : o.guard = some (j, want)) (hj : ops[j]? = some g) (ht : g.dst = some t) (hb : L.get t = some (.bool (!want))) (hd : o.dst = some d) (hn : Nat.blt d n = true) (hS : S w)
    (k : AL P n ops Q S fuel (listed.setIfInBounds i true) ((d, undef) :: L) w) : AL P n ops Q S (fuel + 1) listed L w := fun a ha => by
  refine wpAnyH_take (v := undef) hi hs hf hr (fun _ _ _ h => h) (.inr ⟨by rw [wanted_of ha hg hj ht hb]; simp, rfl⟩) hS ?_
  rw [hd]
  exact k _ (ha.put (blt_lt hn) _)
theorem AL.one (i : Nat) (hi : ops[i]? = some o) (hr : Region.ready .any ops listed = [i]) (hg : o.guard = none)
    (h : Stp P n o L w (fun L' w' => S w' ∧ AL P n ops Q S fuel (listed.setIfInBounds i true) L' w')) : AL P n ops Q S (fuel + 1) listed L w := fun a ha => by
  refine wpAnyH_all hr (by simp) fun j hj => ?_
  rw [List.mem_singleton.1 hj]
  unfold wpOp
  simp only [hi]
  rw [if_pos (by simp [Region.wanted, hg])]
  exact .inl (Oper.wp_mono' (h a ha _) fun a' w' ⟨L', hf, hk⟩ => ⟨hk.1, hk.2 a' hf⟩)
theorem AL.oneG (i : Nat) (j : Nat) (want : Bool) {g : Oper} {t : Nat} (hi : ops[i]? = some o) (hr : Region.ready .any ops listed = [i])
    (hg : o.guard = some (j, want)) (hj : ops[j]? = some g) (ht : g.dst = some t) (hb : L.get t = some (.bool want))
    (h : Stp P n o L w (fun L' w' => S w' ∧ AL P n ops Q S fuel (listed.setIfInBounds i true) L' w')) : AL P n ops Q S (fuel + 1) listed L w := fun a ha => by
  refine wpAnyH_all hr (by simp) fun k hk => ?_
  rw [List.mem_singleton.1 hk]
  unfold wpOp
  simp only [hi]
  rw [if_pos (by rw [wanted_of ha hg hj ht hb]; simp)]
  exact .inl (Oper.wp_mono' (h a ha _) fun a' w' ⟨L', hf, hk⟩ => ⟨hk.1, hk.2 a' hf⟩)
theorem AL.two (i j : Nat) {oj : Oper} (hi : ops[i]? = some o) (hj : ops[j]? = some oj) (hr : Region.ready .any ops listed = [i, j]) (hgi : o.guard = none) (hgj : oj.guard = none)
    (h1 : Stp P n o L w (fun L' w' => S w' ∧ AL P n ops Q S fuel (listed.setIfInBounds i true) L' w'))
    (h2 : Stp P n oj L w (fun L' w' => S w' ∧ AL P n ops Q S fuel (listed.setIfInBounds j true) L' w')) : AL P n ops Q S (fuel + 1) listed L w := fun a ha => by
  refine wpAnyH_all hr (by simp) fun k hk => ?_
  simp only [List.mem_cons, List.not_mem_nil, or_false] at hk
  rcases hk with rfl | rfl
  · unfold wpOp
    simp only [hi]
    rw [if_pos (by simp [Region.wanted, hgi])]
    exact .inl (Oper.wp_mono' (h1 a ha _) fun a' w' ⟨L', hf, hk⟩ => ⟨hk.1, hk.2 a' hf⟩)
  · unfold wpOp
    simp only [hj]
    rw [if_pos (by simp [Region.wanted, hgj])]
    exact .inl (Oper.wp_mono' (h2 a ha _) fun a' w' ⟨L', hf, hk⟩ => ⟨hk.1, hk.2 a' hf⟩)
theorem AL.done (hr : Region.ready .any ops listed = []) (h : Q .normal L w) : AL P n ops Q S fuel listed L w := fun a ha =>
  wpAnyH_done hr ⟨L, ha, h⟩ fuel
theorem AL.doneT {K : Env → World → Prop} (hr : Region.ready .any ops listed = []) (h : K L w) : AL P n ops (Thn K Q) S fuel listed L w := fun a ha =>
  wpAnyH_done hr ⟨L, ha, h⟩ fuel
end
/-- a region's own end, said once -/
theorem CW.post {c : Code} (R : Env → World → Prop) (h : CW P n c (Thn R (fun _ _ _ => False)) L w) (k : ∀ L w, R L w → Q .normal L w) : CW P n c Q L w := fun a ha =>
  wp_mono (h a ha) fun e a' w' he => by
    cases e with
    | normal => obtain ⟨L', hf, hq⟩ := he; exact ⟨L', hf, k _ _ hq⟩
    | panic c => exact he
    | outgrown => exact he
    | ret => obtain ⟨L', _, hq⟩ := he; exact hq.elim
    | exit i => obtain ⟨L', _, hq⟩ := he; exact hq.elim
    | goto i => obtain ⟨L', _, hq⟩ := he; exact hq.elim
end

/-! ### functions -/
theorem Thn_n {K : Env → World → Prop} {Q : Post} {L : Env} {w : World} (h : K L w) : Thn K Q .normal L w := h
theorem Thn_x {K : Env → World → Prop} {Q : Post} {L : Env} {w : World} {i : Nat} (h : Q (.exit i) L w) : Thn K Q (.exit i) L w := h
theorem Thn_r {K : Env → World → Prop} {Q : Post} {L : Env} {w : World} (h : Q .ret L w) : Thn K Q .ret L w := h
theorem Blk_n {id : Nat} {Q : Post} {L : Env} {w : World} (h : Q .normal L w) : Blk id Q .normal L w := h
theorem Blk_x {id : Nat} {Q : Post} {L : Env} {w : World} (h : Q .normal L w) : Blk id Q (.exit id) L w := by
  show bif Nat.beq id id then _ else _
  simpa using h
theorem Blk_y {id i : Nat} {Q : Post} {L : Env} {w : World} (hi : Nat.beq i id = false) (h : Q (.exit i) L w) : Blk id Q (.exit i) L w := by
  show bif Nat.beq i id then _ else _
  rw [hi]; exact h
theorem Blk_r {id : Nat} {Q : Post} {L : Env} {w : World} (h : Q .ret L w) : Blk id Q .ret L w := h
theorem CW.iteT {P : Program} {n : Nat} {Q : Post} {L : Env} {w : World} {c : Operand} {x y : Code} {p : Prop} {_ : Decidable p} (hc : L.ev c = some (.bool (decide p))) (hp : p) (h : CW P n x Q L w) : CW P n (.cond c x y) Q L w :=
  CW.condT (hc.trans (by simp [hp])) h
theorem CW.iteF {P : Program} {n : Nat} {Q : Post} {L : Env} {w : World} {c : Operand} {x y : Code} {p : Prop} {_ : Decidable p} (hc : L.ev c = some (.bool (decide p))) (hp : ¬ p) (h : CW P n y Q L w) : CW P n (.cond c x y) Q L w :=
  CW.condF (hc.trans (by simp [hp])) h
/-- the end of a function's body -/
def FQ (P : Program) (n : Nat) (fn : Func) (R : Value → World → Prop) : Post
  | .normal, L, w | .ret, L, w => ∃ v, (∀ a, Fits n L a → (results fn a.tmps).run P w = .ok v w) ∧ R v w
  | _, _, _ => False
def args0 (i : Nat) : List Value → Env
  | [] => []
  | v :: r => (i, v) :: args0 (i + 1) r
theorem args0_get : ∀ (l : List Value) (i t : Nat) (v : Value), (args0 i l).get t = some v → i ≤ t ∧ l[t - i]? = some v
  | [], _, _, _, h => by simp [args0, Env.get] at h
  | u :: r, i, t, v, h => by
    simp only [args0, Env.get] at h
    cases hb : Nat.beq i t with
    | true =>
      have e := Nat.eq_of_beq_eq_true hb
      subst e
      simp only [hb, cond_true, Option.some.injEq] at h
      simp [h]
    | false =>
      simp only [hb, cond_false] at h
      obtain ⟨h1, h2⟩ := args0_get r (i + 1) t v h
      refine ⟨by omega, ?_⟩
      have : t - i = (t - (i + 1)) + 1 := by omega
      rw [this]
      simpa using h2
theorem enter {P : Program} {f : FuncId} {fn : Func} {c : Code} {l : List Value} {w : World} {R : Value → World → Prop} (n : Nat)
    (hf : P.funcs[f]? = some fn) (hb : fn.body = some c) (hn : fn.ntmps = n) (hl : Nat.ble l.length n = true) (h : CW P n c (FQ P n fn R) (args0 0 l) w) :
    Calls P f l.toArray w fun e w' => ∃ v, e = .returned v ∧ R v w' := by
  subst hn
  have hl : l.length ≤ fn.ntmps := Nat.le_of_ble_eq_true hl
  refine calls_of_wp hf hb (wp_mono (h _ ⟨by simp; omega, rfl, fun t v hv => ?_⟩) fun e a w' he => ?_)
  · obtain ⟨h1, h2⟩ := args0_get l 0 t v hv
    simp only [Nat.sub_zero] at h2
    have hlt : t < l.length := (List.getElem?_eq_some_iff.1 h2).1
    rw [Array.getElem?_append_left (by simpa using hlt)]
    simpa using h2
  · cases e with
    | normal => obtain ⟨L', hf', v, hv, hR⟩ := he; exact ⟨hf'.defers, v, hv a hf', v, rfl, hR⟩
    | ret => obtain ⟨L', hf', v, hv, hR⟩ := he; exact ⟨hf'.defers, v, hv a hf', v, rfl, hR⟩
    | exit i => obtain ⟨_, _, hq⟩ := he; exact hq.elim
    | goto i => obtain ⟨_, _, hq⟩ := he; exact hq.elim
    | panic c => exact he.elim
    | outgrown => exact he.elim
theorem fq_tmp {P : Program} {n : Nat} {fn : Func} {R : Value → World → Prop} {L : Env} {w : World} {t : Nat} {v : Value} (hr : fn.results = #[.tmp t]) (hv : L.get t = some v) (h : R v w) : FQ P n fn R .ret L w :=
  ⟨v, fun a ha => by simp [results, hr, ha.has t v hv], h⟩
theorem fq_tmp2 {P : Program} {n : Nat} {fn : Func} {R : Value → World → Prop} {L : Env} {w : World} {t t' : Nat} {v v' : Value} (hr : fn.results = #[.tmp t, .tmp t']) (hv : L.get t = some v) (hv' : L.get t' = some v') (h : R (.tuple #[v, v']) w) : FQ P n fn R .ret L w :=
  ⟨_, fun a ha => by simp [results, hr, ha.has t v hv, ha.has t' v' hv'], h⟩
theorem fq_none {P : Program} {n : Nat} {fn : Func} {R : Value → World → Prop} {L : Env} {w : World} (hr : fn.results = #[]) (h : R (.tuple #[]) w) : FQ P n fn R .normal L w :=
  ⟨_, fun a ha => by simp [results, hr], h⟩
end Go.E
