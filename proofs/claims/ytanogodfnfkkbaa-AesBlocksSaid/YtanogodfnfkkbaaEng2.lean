/- The engine's worlds: what is known of the heap (M), what the function owns (O). -/
import Derived.Test.YtanogodfnfkkbaaEng1
namespace Go.E
open Go

abbrev PH := Nat → Option Obj
def PH.le (M M' : PH) : Prop := ∀ i o, M i = some o → M' i = some o
theorem PH.le.refl (M : PH) : PH.le M M := fun _ _ h => h
theorem PH.le.trans {A B C : PH} (h : A.le B) (k : B.le C) : A.le C := fun i o x => k i o (h i o x)
abbrev Owned := List (Nat × Obj)
def nth : Owned → Nat → Option (Nat × Obj)
  | [], _ => none
  | x :: _, 0 => some x
  | _ :: r, i + 1 => nth r i
def upd : Owned → Nat → Obj → Owned
  | [], _, _ => []
  | x :: r, 0, o => (x.1, o) :: r
  | x :: r, i + 1, o => x :: upd r i o
def rem : Owned → Nat → Owned
  | [], _ => []
  | _ :: r, 0 => r
  | x :: r, i + 1 => x :: rem r i
theorem nth_mem {O : Owned} {i : Nat} {x : Nat × Obj} (h : nth O i = some x) : x ∈ O := by
  induction O generalizing i with
  | nil => simp [nth] at h
  | cons y r ih =>
    cases i with
    | zero => simp [nth] at h; simp [h]
    | succ i => simp only [nth] at h; exact List.mem_cons_of_mem _ (ih h)
theorem upd_keys (O : Owned) (i : Nat) (o : Obj) : (upd O i o).map Prod.fst = O.map Prod.fst := by
  induction O generalizing i with
  | nil => rfl
  | cons y r ih => cases i with
    | zero => rfl
    | succ i => simp [upd, ih]
theorem mem_upd {O : Owned} {i : Nat} {b : Nat} {o o' : Obj} (hnd : (O.map Prod.fst).Nodup) (h : nth O i = some (b, o)) {x : Nat × Obj} (hx : x ∈ upd O i o') :
    x = (b, o') ∨ (x ∈ O ∧ x.1 ≠ b) := by
  induction O generalizing i with
  | nil => simp [nth] at h
  | cons y r ih =>
    simp only [List.map_cons, List.nodup_cons] at hnd
    cases i with
    | zero =>
      simp only [nth, Option.some.injEq] at h
      subst h
      simp only [upd, List.mem_cons] at hx
      rcases hx with rfl | hx
      · exact .inl rfl
      · refine .inr ⟨List.mem_cons_of_mem _ hx, fun e => hnd.1 ?_⟩
        have := List.mem_map_of_mem (f := Prod.fst) hx
        rw [e] at this; exact this
    | succ i =>
      simp only [nth] at h
      simp only [upd, List.mem_cons] at hx
      rcases hx with rfl | hx
      · refine .inr ⟨List.mem_cons_self, fun e => hnd.1 ?_⟩
        have := List.mem_map_of_mem (f := Prod.fst) (nth_mem h)
        rw [e]; exact this
      · rcases ih hnd.2 h hx with h1 | h1
        · exact .inl h1
        · exact .inr ⟨List.mem_cons_of_mem _ h1.1, h1.2⟩

theorem alloc_old (w : World) (o : Obj) (i : Nat) (h : i < w.heap.size) : (w.alloc o).heap[i]? = w.heap[i]? := by
  show (w.heap.push o)[i]? = w.heap[i]?
  rw [Array.getElem?_push, if_neg (Nat.ne_of_lt h)]
theorem alloc_new (w : World) (o : Obj) : (w.alloc o).heap[w.heap.size]? = some o := by
  show (w.heap.push o)[w.heap.size]? = some o
  simp
theorem alloc_size (w : World) (o : Obj) : (w.alloc o).heap.size = w.heap.size + 1 := by
  show (w.heap.push o).size = _
  simp

structure St (w0 w : World) (M : PH) (O : Owned) : Prop where
  os : w.os = w0.os
  tape : w.tape = w0.tape
  output : w.output = w0.output
  size : w0.heap.size ≤ w.heap.size
  blk : ∀ k, k < w0.heap.size → (∀ x ∈ O, x.1 ≠ k) → w.heap[k]? = w0.heap[k]?
  on : ∀ i o, M i = some o → w.heap[i]? = some o
  own : ∀ x ∈ O, w.heap[x.1]? = some x.2 ∧ M x.1 = none
  nd : (O.map Prod.fst).Nodup

def On (M : PH) (w : World) : Prop := ∀ i o, M i = some o → w.heap[i]? = some o

section
variable {w0 w : World} {M : PH} {O : Owned}
theorem St.refl (h : On M w) : St w w M [] := ⟨rfl, rfl, rfl, Nat.le_refl _, fun _ _ _ => rfl, h, (fun _ hx => by cases hx), by simp⟩
theorem St.start (h : On M w) (hO : ∀ x ∈ O, w.heap[x.1]? = some x.2 ∧ M x.1 = none) (hn : (O.map Prod.fst).Nodup) : St w w M O :=
  ⟨rfl, rfl, rfl, Nat.le_refl _, fun _ _ _ => rfl, h, hO, hn⟩
theorem St.get (h : St w0 w M O) {i b : Nat} {o : Obj} (hi : nth O i = some (b, o)) : w.heap[b]? = some o := (h.own _ (nth_mem hi)).1
theorem lt_of_get {w : World} {b : Nat} {o : Obj} (h : w.heap[b]? = some o) : b < w.heap.size := (Array.getElem?_eq_some_iff.1 h).1
theorem St.drew (h : St w0 w M O) : St w0 w.drew M O := ⟨h.os, h.tape, h.output, h.size, h.blk, h.on, h.own, h.nd⟩
theorem St.alloc (h : St w0 w M O) (o : Obj) : St w0 (w.alloc o) M ((w.heap.size, o) :: O) := by
  have old : ∀ (i : Nat) (x : Obj), w.heap[i]? = some x → (w.alloc o).heap[i]? = some x := fun i x hx => by
    rw [alloc_old w o i (lt_of_get hx)]; exact hx
  refine ⟨h.os, h.tape, h.output, by rw [alloc_size]; have := h.size; omega, fun k hk hne => ?_, fun i x hx => old i x (h.on i x hx), fun x hx => ?_, ?_⟩
  · rw [alloc_old w o k (Nat.lt_of_lt_of_le hk h.size)]
    exact h.blk k hk fun x hx => hne x (List.mem_cons_of_mem _ hx)
  · rcases List.mem_cons.1 hx with rfl | hx
    · refine ⟨alloc_new w o, ?_⟩
      cases hm : M w.heap.size with
      | none => rfl
      | some y => have := lt_of_get (h.on _ _ hm); omega
    · exact ⟨old _ _ (h.own x hx).1, (h.own x hx).2⟩
  · simp only [List.map_cons, List.nodup_cons]
    refine ⟨fun hm => ?_, h.nd⟩
    obtain ⟨x, hx, he⟩ := List.mem_map.1 hm
    have := lt_of_get (h.own x hx).1
    omega

/-- a world that differs from w at block b alone -/
structure Put (w w' : World) (b : Nat) (o : Obj) : Prop where
  os : w'.os = w.os
  tape : w'.tape = w.tape
  output : w'.output = w.output
  size : w'.heap.size = w.heap.size
  at_ : w'.heap[b]? = some o
  other : ∀ k, k ≠ b → w'.heap[k]? = w.heap[k]?
theorem St.put (h : St w0 w M O) {i b : Nat} {o o' : Obj} (hi : nth O i = some (b, o)) {w' : World} (hp : Put w w' b o') : St w0 w' M (upd O i o') := by
  have hb := h.own _ (nth_mem hi)
  refine ⟨hp.os.trans h.os, hp.tape.trans h.tape, hp.output.trans h.output, by rw [hp.size]; exact h.size, fun k hk hne => ?_, fun j x hx => ?_, fun x hx => ?_, by rw [upd_keys]; exact h.nd⟩
  · have hkeys : ∀ x ∈ O, x.1 ≠ k := fun x hx e => by
      have : k ∈ (upd O i o').map Prod.fst := by rw [upd_keys, ← e]; exact List.mem_map_of_mem hx
      obtain ⟨y, hy, hye⟩ := List.mem_map.1 this
      exact hne y hy hye
    rw [hp.other k fun e => hkeys _ (nth_mem hi) e.symm]
    exact h.blk k hk hkeys
  · rw [hp.other j fun e => by subst e; rw [hb.2] at hx; cases hx]
    exact h.on j x hx
  · rcases mem_upd h.nd hi hx with rfl | ⟨h1, h2⟩
    · exact ⟨hp.at_, hb.2⟩
    · rw [hp.other _ h2]; exact h.own x h1
theorem put_setCell {b off : Nat} {cs : Array Value} {T : TypeId} (v : Value) (h : w.heap[b]? = some (.cells cs T (0, 0))) :
    Put w (w.setCell ⟨b, off, none⟩ v) b (.cells (cs.setIfInBounds off v) T (0, 0)) :=
  ⟨rfl, rfl, rfl, by simp [World.setCell], heap_setCell_same w b off cs T v h, fun k hk => heap_setCell_other w _ k v hk⟩
theorem put_setRow {b : Nat} {cs cs' : Array Value} {T : TypeId} (h : w.heap[b]? = some (.cells cs T (0, 0))) :
    Put w (w.setRow b cs') b (.cells cs' T (0, 0)) :=
  ⟨rfl, rfl, rfl, by simp, setRow_heap w b cs cs' T _ h, fun k hk => setRow_other w b k cs' hk⟩

/-- what a callee leaves: M' knows more, by fresh blocks alone -/
def Fresh (M M' : PH) (n : Nat) : Prop := ∀ i, M i = none → M' i ≠ none → n ≤ i
theorem Fresh.refl (M : PH) (n : Nat) : Fresh M M n := fun _ h k => absurd h k

/-- behind a call that owned nothing -/
theorem St.call (h : St w0 w M O) {w' : World} {M' : PH} (hc : St w w' M' []) (hf : Fresh M M' w.heap.size) : St w0 w' M' O := by
  have old : ∀ (i : Nat) (x : Obj), w.heap[i]? = some x → w'.heap[i]? = some x := fun i x hx => by
    rw [hc.blk i (lt_of_get hx) (fun _ h => by cases h)]; exact hx
  refine ⟨hc.os.trans h.os, hc.tape.trans h.tape, hc.output.trans h.output, Nat.le_trans h.size hc.size, fun k hk hne => ?_, hc.on, fun x hx => ?_, h.nd⟩
  · rw [hc.blk k (Nat.lt_of_lt_of_le hk h.size) (fun _ h => by cases h)]
    exact h.blk k hk hne
  · obtain ⟨h1, h2⟩ := h.own x hx
    refine ⟨old _ _ h1, ?_⟩
    cases hm : M' x.1 with
    | none => rfl
    | some y =>
      have := hf x.1 h2 (by rw [hm]; simp)
      have := lt_of_get h1
      omega
/-- behind a call that owned one of our blocks -/
theorem St.callO (h : St w0 w M O) {i b : Nat} {o o' : Obj} (hi : nth O i = some (b, o)) {w' : World} {M' : PH} (hc : St w w' M' [(b, o')]) (hf : Fresh M M' w.heap.size) : St w0 w' M' (upd O i o') := by
  have hb := h.own _ (nth_mem hi)
  have old : ∀ (i : Nat) (x : Obj), i ≠ b → w.heap[i]? = some x → w'.heap[i]? = some x := fun i x hne hx => by
    rw [hc.blk i (lt_of_get hx) (fun y hy => by simp at hy; subst hy; exact fun e => hne e.symm)]; exact hx
  have fr : ∀ j, M j = none → j < w.heap.size → M' j = none := fun j h1 h2 => by
    cases hm : M' j with
    | none => rfl
    | some y => have := hf j h1 (by rw [hm]; simp); omega
  refine ⟨hc.os.trans h.os, hc.tape.trans h.tape, hc.output.trans h.output, Nat.le_trans h.size hc.size, fun k hk hne => ?_, hc.on, fun x hx => ?_, by rw [upd_keys]; exact h.nd⟩
  · have hkeys : ∀ x ∈ O, x.1 ≠ k := fun x hx e => by
      have : k ∈ (upd O i o').map Prod.fst := by rw [upd_keys, ← e]; exact List.mem_map_of_mem hx
      obtain ⟨y, hy, hye⟩ := List.mem_map.1 this
      exact hne y hy hye
    rw [hc.blk k (Nat.lt_of_lt_of_le hk h.size) (fun y hy => by simp at hy; subst hy; exact hkeys (b, o) (nth_mem hi))]
    exact h.blk k hk hkeys
  · rcases mem_upd h.nd hi hx with rfl | ⟨h1, h2⟩
    · exact hc.own _ (by simp)
    · obtain ⟨h3, h4⟩ := h.own x h1
      exact ⟨old _ _ h2 h3, fr _ h4 (lt_of_get h3)⟩

theorem mem_rem {O : Owned} {i : Nat} {x : Nat × Obj} (h : x ∈ rem O i) : x ∈ O := by
  induction O generalizing i with
  | nil => simp [rem] at h
  | cons y r ih => cases i with
    | zero => exact List.mem_cons_of_mem _ h
    | succ i =>
      simp only [rem, List.mem_cons] at h
      rcases h with rfl | h
      · exact List.mem_cons_self
      · exact List.mem_cons_of_mem _ (ih h)
theorem rem_nodup {O : Owned} (i : Nat) (h : (O.map Prod.fst).Nodup) : ((rem O i).map Prod.fst).Nodup := by
  induction O generalizing i with
  | nil => simp [rem]
  | cons y r ih =>
    simp only [List.map_cons, List.nodup_cons] at h
    cases i with
    | zero => exact h.2
    | succ i =>
      simp only [rem, List.map_cons, List.nodup_cons]
      refine ⟨fun hm => h.1 ?_, ih i h.2⟩
      obtain ⟨x, hx, he⟩ := List.mem_map.1 hm
      exact he ▸ List.mem_map_of_mem (mem_rem hx)
theorem rem_ne {O : Owned} {i b : Nat} {o : Obj} (hnd : (O.map Prod.fst).Nodup) (h : nth O i = some (b, o)) {x : Nat × Obj} (hx : x ∈ rem O i) : x.1 ≠ b := by
  induction O generalizing i with
  | nil => simp [nth] at h
  | cons y r ih =>
    simp only [List.map_cons, List.nodup_cons] at hnd
    cases i with
    | zero =>
      simp only [nth, Option.some.injEq] at h
      subst h
      intro e
      have := List.mem_map_of_mem (f := Prod.fst) (show x ∈ r from hx)
      rw [e] at this
      exact hnd.1 this
    | succ i =>
      simp only [nth] at h
      simp only [rem, List.mem_cons] at hx
      rcases hx with rfl | hx
      · intro e
        have := List.mem_map_of_mem (f := Prod.fst) (nth_mem h)
        exact hnd.1 (by rw [e]; exact this)
      · exact ih hnd.2 h hx
def PH.add (M : PH) (b : Nat) (o : Obj) : PH := fun i => bif Nat.beq i b then some o else M i
theorem PH.add_self (M : PH) (b : Nat) (o : Obj) : M.add b o b = some o := by simp [PH.add]
theorem PH.add_ne (M : PH) {b i : Nat} (o : Obj) (h : i ≠ b) : M.add b o i = M i := by
  have : Nat.beq i b = false := by
    cases hb : Nat.beq i b with
    | true => exact absurd (Nat.eq_of_beq_eq_true hb) h
    | false => rfl
  simp [PH.add, this]
theorem PH.le_add {M : PH} {b : Nat} (o : Obj) (h : M b = none) : M.le (M.add b o) := fun i x hx => by
  rw [PH.add_ne M o fun e => by subst e; rw [h] at hx; cases hx]; exact hx
/-- an owned block of this call's own is given away: from now on it is known and stays as it is -/
theorem St.freeze (h : St w0 w M O) {i b : Nat} {o : Obj} (hi : nth O i = some (b, o)) (hb : w0.heap.size ≤ b) : St w0 w (M.add b o) (rem O i) ∧ M.le (M.add b o) := by
  have hbo := h.own _ (nth_mem hi)
  refine ⟨⟨h.os, h.tape, h.output, h.size, fun k hk hne => ?_, fun j x hx => ?_, fun x hx => ?_, rem_nodup i h.nd⟩, PH.le_add o hbo.2⟩
  · refine h.blk k hk fun x hx e => ?_
    by_cases hxb : x.1 = b
    · omega
    · have : ∀ {O : Owned} {i : Nat}, nth O i = some (b, o) → x ∈ O → x.1 ≠ b → x ∈ rem O i := by
        intro O
        induction O with
        | nil => intro i _ hx; cases hx
        | cons y r ih =>
          intro i hi hx hne
          cases i with
          | zero =>
            simp only [nth, Option.some.injEq] at hi
            subst hi
            rcases List.mem_cons.1 hx with rfl | hx
            · exact absurd rfl hne
            · exact hx
          | succ i =>
            simp only [nth] at hi
            simp only [rem, List.mem_cons]
            rcases List.mem_cons.1 hx with rfl | hx
            · exact .inl rfl
            · exact .inr (ih hi hx hne)
      exact hne x (this hi hx hxb) e
  · by_cases hj : j = b
    · subst hj; rw [PH.add_self] at hx; cases hx; exact hbo.1
    · rw [PH.add_ne M o hj] at hx; exact h.on j x hx
  · have hm := mem_rem hx
    refine ⟨(h.own x hm).1, ?_⟩
    rw [PH.add_ne M o (rem_ne h.nd hi hx)]
    exact (h.own x hm).2
/-- an owned block that is no one's any more -/
theorem St.drop (h : St w0 w M O) {i b : Nat} {o : Obj} (hi : nth O i = some (b, o)) (hb : w0.heap.size ≤ b) : St w0 w M (rem O i) := by
  obtain ⟨h1, h2⟩ := h.freeze hi hb
  exact ⟨h1.os, h1.tape, h1.output, h1.size, h1.blk, h.on, fun x hx => h.own x (mem_rem hx), h1.nd⟩
theorem St.known (h : St w0 w M O) {M' : PH} (hl : M'.le M) : St w0 w M' O :=
  ⟨h.os, h.tape, h.output, h.size, h.blk, fun i o x => h.on i o (hl i o x), fun x hx => ⟨(h.own x hx).1, by
    cases hm : M' x.1 with
    | none => rfl
    | some y => have := hl _ _ hm; rw [(h.own x hx).2] at this; cases this⟩, h.nd⟩
end

/-- all blocks of w are in w' as they were -/
def Kept (w w' : World) : Prop := ∀ (k : Nat) (o : Obj), w.heap[k]? = some o → w'.heap[k]? = some o
theorem Kept.refl (w : World) : Kept w w := fun _ _ h => h
theorem Kept.trans {a b c : World} (h : Kept a b) (k : Kept b c) : Kept a c := fun i o x => k i o (h i o x)
theorem Kept.alloc (w : World) (o : Obj) : Kept w (w.alloc o) := fun i x h => by rw [alloc_old w o i (lt_of_get h)]; exact h
theorem Kept.drew (w : World) : Kept w w.drew := fun _ _ h => h
theorem St.kept {w w' : World} {M : PH} (h : St w w' M []) : Kept w w' := fun i x hx => by
  rw [h.blk i (lt_of_get hx) (fun _ h => by cases h)]; exact hx
theorem Kept.fresh {a c : World} (h : Kept a c) {b : Nat} (hn : c.heap[b]? = none) : a.heap[b]? = none := by
  cases hm : a.heap[b]? with
  | none => rfl
  | some o => have := h _ _ hm; rw [hn] at this; cases this
theorem Kept.put {a c d : World} (h : Kept a c) {b : Nat} {o : Obj} (hp : Put c d b o) (hn : a.heap[b]? = none) : Kept a d := fun i x hx => by
  rw [hp.other i fun e => by subst e; rw [hn] at hx; cases hx]; exact h i x hx
theorem new_none (w : World) : w.heap[w.heap.size]? = none := by simp
theorem Kept.cell {w w' : World} (h : Kept w w') {b j : Nat} {v : Value} (hc : w.cell? ⟨b, j, none⟩ = some v) : w'.cell? ⟨b, j, none⟩ = some v := by
  simp only [World.cell?] at *
  cases hb : w.heap[b]? with
  | none => simp [hb] at hc
  | some o => rw [h _ _ hb]; rw [hb] at hc; exact hc

/-! ### contracts -/
def Ok (P : Program) (f : FuncId) (args : Array Value) (w : World) (M : PH) (Φ : PH → Value → Prop) : Prop :=
  Calls P f args w fun e w' => ∃ v M', e = .returned v ∧ St w w' M' [] ∧ M.le M' ∧ Fresh M M' w.heap.size ∧ Φ M' v
/-- a contract that owns one block (behind a pointer) -/
def OkO (P : Program) (f : FuncId) (args : Array Value) (w : World) (M : PH) (b : Nat) (Φ : PH → Obj → Value → Prop) : Prop :=
  Calls P f args w fun e w' => ∃ v M' o', e = .returned v ∧ St w w' M' [(b, o')] ∧ M.le M' ∧ Fresh M M' w.heap.size ∧ Φ M' o' v
theorem enterB {P : Program} {f : FuncId} {fn : Func} {c : Code} {l : List Value} {w : World} {M : PH} {Φ : PH → Value → Prop} (n : Nat)
    (hf : P.funcs[f]? = some fn) (hb : fn.body = some c) (hn : fn.ntmps = n) (hl : Nat.ble l.length n = true)
    (h : CW P n c (FQ P n fn fun v w' => ∃ M', St w w' M' [] ∧ M.le M' ∧ Fresh M M' w.heap.size ∧ Φ M' v) (args0 0 l) w) : Ok P f l.toArray w M Φ :=
  (enter n hf hb hn hl h).mono fun _ _ ⟨v, he, M', h1, h2, h3, h4⟩ => ⟨v, M', he, h1, h2, h3, h4⟩
theorem enterO {P : Program} {f : FuncId} {fn : Func} {c : Code} {l : List Value} {w : World} {M : PH} {b : Nat} {Φ : PH → Obj → Value → Prop} (n : Nat)
    (hf : P.funcs[f]? = some fn) (hb : fn.body = some c) (hn : fn.ntmps = n) (hl : Nat.ble l.length n = true)
    (h : CW P n c (FQ P n fn fun v w' => ∃ M' o', St w w' M' [(b, o')] ∧ M.le M' ∧ Fresh M M' w.heap.size ∧ Φ M' o' v) (args0 0 l) w) : OkO P f l.toArray w M b Φ :=
  (enter n hf hb hn hl h).mono fun _ _ ⟨v, he, M', o', h1, h2, h3, h4⟩ => ⟨v, M', o', he, h1, h2, h3, h4⟩
theorem On.st {M : PH} {w : World} (h : On M w) : St w w M [] := St.refl h
theorem On.st1 {M : PH} {w : World} (h : On M w) {b : Nat} {o : Obj} (hb : w.heap[b]? = some o) (hm : M b = none) : St w w M [(b, o)] :=
  St.start h (fun x hx => by
    have e : x = (b, o) := by simpa using hx
    rw [e]; exact ⟨hb, hm⟩) (by simp)
/-- a whole row is the only result -/
theorem fq_cell {P : Program} {n : Nat} {fn : Func} {R : Value → World → Prop} {L : Env} {w : World} {p b : Nat} {ty T : TypeId} {cs : Array Value} {d : TypeDesc} {fr : Nat × Nat} (hr : fn.results = #[.cell p ty]) (hp : L.get p = some (.pointer (some ⟨b, 0, none⟩)))
    (hb : w.heap[b]? = some (.cells cs T fr)) (hu : P.underlying ty = some d) (hd : (match d with | .struct _ | .array _ _ => true | _ => false) = true) (hs : (P.info? ty).map (·.size) = some cs.size) (h : R (.agg cs) w) : FQ P n fn R .ret L w :=
  ⟨_, fun a ha => results_cell_row hr a.tmps w b T cs fr d (by have := ha.has p _ hp; simp [this]) hb hu hd hs, h⟩
theorem fq_cell_tmp {P : Program} {n : Nat} {fn : Func} {R : Value → World → Prop} {L : Env} {w : World} {p b t : Nat} {ty T : TypeId} {cs : Array Value} {d : TypeDesc} {fr : Nat × Nat} {v : Value} (hr : fn.results = #[.cell p ty, .tmp t]) (hp : L.get p = some (.pointer (some ⟨b, 0, none⟩))) (hv : L.get t = some v)
    (hb : w.heap[b]? = some (.cells cs T fr)) (hu : P.underlying ty = some d) (hd : (match d with | .struct _ | .array _ _ => true | _ => false) = true) (hs : (P.info? ty).map (·.size) = some cs.size) (h : R (.tuple #[.agg cs, v]) w) : FQ P n fn R .ret L w :=
  ⟨_, fun a ha => by
    have h1 := run_loadVar_row (P := P) w b T ty cs fr d hb hu hd hs
    simp [results, hr, ha.has p _ hp, ha.has t v hv, asAddr, h1], h⟩
theorem fq_tmp_cell_tmp {P : Program} {n : Nat} {fn : Func} {R : Value → World → Prop} {L : Env} {w : World} {p b t t' : Nat} {ty T : TypeId} {cs : Array Value} {d : TypeDesc} {fr : Nat × Nat} {v v' : Value} (hr : fn.results = #[.tmp t', .cell p ty, .tmp t]) (hv' : L.get t' = some v') (hp : L.get p = some (.pointer (some ⟨b, 0, none⟩))) (hv : L.get t = some v)
    (hb : w.heap[b]? = some (.cells cs T fr)) (hu : P.underlying ty = some d) (hd : (match d with | .struct _ | .array _ _ => true | _ => false) = true) (hs : (P.info? ty).map (·.size) = some cs.size) (h : R (.tuple #[v', .agg cs, v]) w) : FQ P n fn R .ret L w :=
  ⟨_, fun a ha => by
    have h1 := run_loadVar_row (P := P) w b T ty cs fr d hb hu hd hs
    simp [results, hr, ha.has p _ hp, ha.has t v hv, ha.has t' v' hv', asAddr, h1], h⟩
end Go.E
